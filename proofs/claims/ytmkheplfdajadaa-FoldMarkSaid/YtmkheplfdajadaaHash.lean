/- value.hash: what a command makes of a hash. -/
import Derived.Test.YtmkheplfdajadaaHold
import Derived.Test.YtmkheplfdajadaaCmp
import Derived.Test.YtmkheplfdajadaaOwn
namespace Go.Proofs.Ytmkheplfdajadaa
set_option linter.all false
open Go.RowKit
attribute [local go_sem ↓] Go.wp_at_zero Go.wp_at_succ
def pairHas (f : ByteArray) (l : List Pr) : Bool := foundAt l (pairAt f l) fun y => cmpB y.field f == 0
def pairText (l : List Pr) (k : Nat) : ByteArray := match l[k]? with | some y => y.text | none => emp
def doHash (v : Va) (c : Cmd) : Va × Re :=
  if c.kind = 4 then
    (if pairHas c.field v.pairs = true then ({ v with pairs := v.pairs.set (pairAt c.field v.pairs) ⟨c.field, c.text⟩ }, toldR 0)
     else if v.pairs.length = 20 then (v, failR 6) else ({ v with pairs := insRows v.pairs (pairAt c.field v.pairs) ⟨c.field, c.text⟩ }, toldR 1))
  else if c.kind = 5 then (if pairHas c.field v.pairs = true then (v, textR (pairText v.pairs (pairAt c.field v.pairs))) else (v, failR 5))
  else if pairHas c.field v.pairs = true then ({ v with pairs := delRows v.pairs (pairAt c.field v.pairs) }, toldR 1) else (v, toldR 0)
theorem pairHas_lt {f : ByteArray} {l : List Pr} (h : pairHas f l = true) : pairAt f l < l.length := by
  rcases Nat.lt_or_ge (pairAt f l) l.length with h' | h'
  · exact h'
  · unfold pairHas at h; rw [foundAt_ge h'] at h; cases h
theorem pairHas_eq {f : ByteArray} {l : List Pr} (h : pairHas f l = true) : (l[pairAt f l]'(pairHas_lt h)).field = f := by
  have h2 := h
  unfold pairHas at h2
  rw [foundAt_lt (pairHas_lt h)] at h2
  rw [← cmpB_eq]; simpa using h2
theorem grown_setRow_cell (w : World) (b i : Nat) (u : Value) : w.grownBy (w.setCell ⟨b, i, none⟩ u) (some b) :=
  ⟨rfl, rfl, rfl, by simp, fun k _ hk => Below.heap_setCell w ⟨b, i, none⟩ u k (fun e => hk (by simp [e]))⟩
theorem pairHas_get {f : ByteArray} {l : List Pr} (h : pairHas f l = true) : ∃ y, l[pairAt f l]? = some y ∧ y.field = f := ⟨_, List.getElem?_eq_getElem (pairHas_lt h), pairHas_eq h⟩
set_option maxHeartbeats 8000000 in
set_option maxRecDepth 100000 in
theorem hash_any (v : Va) (c : Cmd) (B g : Nat) (A1 A2 A3 : Option Addr) (n1 c1 n2 c2 n3 c3 : Nat) (w : World) (hG : Blk w g 102 #[.int .i64 v.kind, .string v.text, .int .i64 v.count, .slice A1 n1 c1, .slice A2 n2 c2, .slice A3 n3 c3])
    (hN : VNew w B v (.slice A1 n1 c1) (.slice A2 n2 c2) (.slice A3 n3 c3)) (hg : B ≤ g) (hBw : B ≤ w.heap.size) (hn : n1 ≤ 20) (hr : risesBy (fun a b : Pr => cmpB a.field b.field) v.pairs = true) (hk : c.kind = 4 ∨ c.kind = 5 ∨ c.kind = 6) :
    Calls Try.prog 121 #[.pointer (some ⟨g, 0, none⟩), .agg #[.int .i64 c.kind, .string c.key, .string c.field, .string c.text, .int .i64 c.n]] w (DoPost (doHash v c).1 (doHash v c).2 B g w) := by
  have hlen : v.pairs.length = n1 := hN.sl.n1_
  obtain ⟨D, hD⟩ : ∃ D, D = doHash v c := ⟨_, rfl⟩
  rw [← hD]
  obtain ⟨kind, key, field, text, n⟩ := c
  obtain ⟨vk, vt, vc, ps, is_, ss⟩ := v
  simp only at hlen hG hN hr hk ⊢
  have hbin := fun wz (hz : Below w.heap.size w wz) => Bin_pair A1 n1 c1 (pairAt field ps) ps ⟨field, { data := #[] }⟩ wz hlen (by omega) (hN.1.sl'.below hz).seg (lowB_le _ _) pair_h1 (pair_h2 hr)
  have hb0 : (foundAt ps (pairAt field ps) fun y => cmpB y.field field == 0) = pairHas field ps := rfl
  simp only [hb0] at hbin
  have heq := @pairHas_get field ps
  have hple := lowB_le (fun y : Pr => decide (cmpB y.field field < 0)) ps
  have hple : pairAt field ps ≤ ps.length := hple
  unfold doHash at hD
  simp only at hD
  generalize hix : pairAt field ps = ix at *
  generalize pairHas field ps = has at *
  have HD := hide hD; have HB := hide hbin; have HL := hide hlen; have HQ := hide heq
  clear hD hbin hb0 hlen heq hix
  have hgl := hG.lt
  have hG1 := hG.alloc (.cells #[.int .i64 kind, .string key, .string field, .string text, .int .i64 n] 27)
  have hC1 := Blk.new w 27 #[.int .i64 kind, .string key, .string field, .string text, .int .i64 n]
  have hC1' := hC1.alloc (.cells #[.int .i64 0, .string { data := #[] }, .int .i64 0, .slice none 0 0] 78)
  have hG1' := hG1.alloc (.cells #[.int .i64 0, .string { data := #[] }, .int .i64 0, .slice none 0 0] 78)
  have hN1 := (hN.al (.cells #[.int .i64 kind, .string key, .string field, .string text, .int .i64 n] 27)).al (.cells #[.int .i64 0, .string { data := #[] }, .int .i64 0, .slice none 0 0] 78)
  have q1 : Below w.heap.size w ((w.alloc (.cells #[.int .i64 kind, .string key, .string field, .string text, .int .i64 n] 27)).alloc (.cells #[.int .i64 0, .string { data := #[] }, .int .i64 0, .slice none 0 0] 78)) := below_by
  have hR1 : Blk ((w.alloc (.cells #[.int .i64 kind, .string key, .string field, .string text, .int .i64 n] 27)).alloc (.cells #[.int .i64 0, .string { data := #[] }, .int .i64 0, .slice none 0 0] 78)) (w.heap.size + 1) 78 #[.int .i64 0, .string { data := #[] }, .int .i64 0, .slice none 0 0] := Blk.new' _ _ _ (by simp)
  (try clear chG1' fhG1'); have chG1' := hG1'.cell; have fhG1' := hG1'.frozen; (try clear chC1' fhC1'); have chC1' := hC1'.cell; have fhC1' := hC1'.frozen
  go_enter Try.func121, Try.ntmps121
  go_upto_region 1 with fail
  go_cut [5, 6] (fun s t wx => s = .int .i64 (ix : Int) ∧ t = .bool has ∧ Blk wx g 102 #[.int .i64 vk, .string vt, .int .i64 vc, .slice A1 n1 c1, .slice A2 n2 c2, .slice A3 n3 c3] ∧ Blk wx w.heap.size 27 #[.int .i64 kind, .string key, .string field, .string text, .int .i64 n] ∧
    Blk wx (w.heap.size + 1) 78 #[.int .i64 0, .string { data := #[] }, .int .i64 0, .slice none 0 0] ∧ VNew wx B ⟨vk, vt, vc, ps, is_, ss⟩ (.slice A1 n1 c1) (.slice A2 n2 c2) (.slice A3 n3 c3) ∧ Below w.heap.size w wx)
  case first =>
    go_region_held3 (fun w' => w'.cell? ⟨g, 3, none⟩ = some (.slice A1 n1 c1) ∧ w'.cell? ⟨w.heap.size, 2, none⟩ = some (.string field)) (first | exact ⟨hG1'.cell 3, hC1'.cell 2⟩ | exact ⟨(hG1'.drew.below' hb1).cell 3, (hC1'.drew.below' hb1).cell 2⟩)
      (first | ((go_at_call 129; with_reducible refine (HB.out _ ?_).mono ?_); (focus exact below_by); rintro e w1 ⟨rfl, hb1⟩))
    go_wp2_with fail
    go_meet
    exact ⟨rfl, rfl, hG1'.drew.below' hb1, hC1'.drew.below' hb1, hR1.drew.below' hb1, hN1.dr.bl hb1, below_by⟩
  case rest =>
    obtain ⟨rfl, rfl, G, C, R, N, q⟩ := hcut
    clear hN1 hG1' hC1' q1 hR1 hG1 hC1 hG hN hr HB chG1' fhG1' chC1' fhC1'
    have hBc : B ≤ wc.heap.size := by have := q.size; omega
    have hgw : g < wc.heap.size := G.lt
    have hww : w.heap.size < wc.heap.size := C.lt
    rcases hk with rfl | rfl | rfl
    · cases has with
      | true =>
        obtain ⟨y, hy, hyf⟩ := HQ.out rfl
        have hixl : ix < ps.length := by
          rcases Nat.lt_or_ge ix ps.length with h' | h'
          · exact h'
          · rw [List.getElem?_eq_none h'] at hy; cases hy
        have hv : D = (⟨vk, vt, vc, ps.set ix ⟨field, text⟩, is_, ss⟩, toldR 0) := by rw [HD.out]; simp
        have HV := hide hv
        clear HD hv HQ
        have hn1 := HL.out
        obtain ⟨b, hb1, hb2, hb3, -, hb5, hb6⟩ := N.1.block (by simp [pairRows]; omega)
        subst hb1
        have hixr : ix < (pairRows ps).length := by simpa [pairRows] using hixl
        have hst := N.1.store (i := ix) (j := 1) (u := .string text) hixr (by omega)
        have hrw : (pairRows ps).set ix (((pairRows ps)[ix]'hixr).set 1 (.string text)) = pairRows (ps.set ix ⟨field, text⟩) := by
          simp only [pairRows, List.map_set, List.getElem_map]
          congr 1
          rw [List.getElem?_eq_getElem hixl] at hy
          injection hy with hy
          rw [hy, ← hyf]; rfl
        rw [hrw] at hst
        have hcx : wc.cell? ⟨b, ix * 2 + 1, none⟩ = some (.string y.text) := hb6 ix y.cells (by simp [pairRows, hy]) 1 _ rfl
        have hbg := own_not N.1 G
        have hbc := own_not N.1 C
        have hbr := own_not N.1 R
        have hz1 : (0 : Int) ≤ ix := by omega
        have hz2 : (ix : Int) < n1 := by omega
        have o2 := own_other N.2.1 N.1 (grown_setRow_cell wc b (ix * 2 + 1) (.string text))
        have o3 := own_other N.2.2 N.1 (grown_setRow_cell wc b (ix * 2 + 1) (.string text))
        (try clear cG fG); have cG := G.cell; have fG := G.frozen; (try clear cC fC); have cC := C.cell; have fC := C.frozen
        clear hrw hyf hy HL hn1
        have G2 := (G.far (p := ⟨b, ix * 2 + 1, none⟩) (by simpa using hbg.symm) (.string text)).drew
        have C2 := (C.far (p := ⟨b, ix * 2 + 1, none⟩) (by simpa using hbc.symm) (.string text)).drew
        have R2 := (R.far (p := ⟨b, ix * 2 + 1, none⟩) (by simpa using hbr.symm) (.string text)).drew
        have q2 : Mov B w (wc.setCell ⟨b, ix * 2 + 1, none⟩ (.string text)).drew := ((Mov.of q hBw).setP N.1 (ix * 2 + 1) (.string text)).drew
        have N2 : VNew (wc.setCell ⟨b, ix * 2 + 1, none⟩ (.string text)).drew B ⟨vk, vt, vc, ps.set ix ⟨field, text⟩, is_, ss⟩ (.slice (some ⟨b, 0, none⟩) n1 c1) (.slice A2 n2 c2) (.slice A3 n3 c3) := ⟨hst, o2, o3⟩
        go_wp2_with fail
        go_region_held3 (fun w' => w'.cell? ⟨g, 3, none⟩ = some (.slice (some ⟨b, 0, none⟩) n1 c1) ∧ w'.cell? ⟨w.heap.size, 3, none⟩ = some (.string text)) (first | exact ⟨G.cell 3, C.cell 3⟩ | exact ⟨G2.cell 3, C2.cell 3⟩) (fail)
        clear cG fG cC fC
        go_wp2_with fail
        refine (told_any 0 _).mono ?_
        rintro e w2 ⟨rfl, hb9⟩
        have R3 := R2.below' hb9
        (try clear cR3 fR3); have cR3 := R3.cell; have fR3 := R3.frozen
        obtain ⟨P, R6⟩ := re_done (k0 := 0) (t0 := emp) (m0 := 0) (G2.below' hb9) R3 (N2.bl hb9) (mov_post q2 (by have := q2.size; omega) hb9) (by omega) (by omega) (by omega)
        go_wp2_with fail
        have cR6 := R6.cell
        refine bodyPost_ret (v := .agg #[.int .i64 0, .string emp, .int .i64 0, .slice none 0 0]) ?_ rfl (by rw [HV.out]; exact P)
        simp [results, Try.results121, go_sem, cR6]
      | false =>
        have hixn : ix ≤ n1 := by rw [← HL.out]; exact hple
        clear hple
        by_cases h20 : n1 = 20
        · have h20' : ps.length = 20 := by rw [HL.out]; exact h20
          have hv : D = (⟨vk, vt, vc, ps, is_, ss⟩, failR 6) := by rw [HD.out]; simp [*]
          have HV := hide hv
          clear HD hv HQ
          clear h20'
          subst h20
          (try clear cG fG); have cG := G.cell; have fG := G.frozen; (try clear cC fC); have cC := C.cell; have fC := C.frozen
          go_wp2_with fail
          refine (failed_any 6 _).mono ?_
          rintro e w9 ⟨rfl, hb9⟩
          have R9 := (R).below' hb9
          (try clear cR9 fR9); have cR9 := R9.cell; have fR9 := R9.frozen
          obtain ⟨P, R6⟩ := re_done (k0 := 6) (t0 := emp) (m0 := 0) ((G).below' hb9) R9 ((N).bl hb9) (mov_post (Mov.of q hBw) (by have := ((Mov.of q hBw)).size; omega) hb9) (by omega) (by omega) (by omega)
          go_wp2_with fail
          have cR6 := R6.cell
          refine bodyPost_ret (v := .agg #[.int .i64 6, .string emp, .int .i64 0, .slice none 0 0]) ?_ rfl (by rw [HV.out]; exact P)
          simp [results, Try.results121, go_sem, cR6]
        · have h20' : ¬ ps.length = 20 := by rw [HL.out]; exact h20
          have hv : D = (⟨vk, vt, vc, insRows ps ix ⟨field, text⟩, is_, ss⟩, toldR 1) := by rw [HD.out]; simp [*]
          have HV := hide hv
          clear HD hv HQ
          have h20b : ((n1 : Int) == 20) = false := by rw [beq_eq_false_iff_ne]; omega
          have n1l := HL.out
          clear h20 h20'
          (try clear cG fG); have cG := G.cell; have fG := G.frozen; (try clear cC fC); have cC := C.cell; have fC := C.frozen
          go_wp2_with fail
          have G1 := G.drew; have C1 := C.drew; have R1 := R.drew; have N1 := N.dr
          have q1 : Below w.heap.size w wc.drew := q.drew
          refine wp_region_x (l := [15]) (S := fun w' => w'.cell? ⟨g, 3, none⟩ = some (.slice A1 n1 c1) ∧ w'.cell? ⟨w.heap.size, 2, none⟩ = some (.string field) ∧ w'.cell? ⟨w.heap.size, 3, none⟩ = some (.string text)) (by kernel_rfl) ⟨G1.cell 3, C1.cell 2, C1.cell 3⟩ (fun hS => ?_)
          refine wpAnyX_tq 0 ?_
          refine wpAnyX_tq 1 ?_
          refine wpAnyX_tq 2 ?_
          refine wpAnyX_tq 3 ?_
          refine wpAnyX_tq 4 ?_
          refine wpAnyX_tq 5 ?_
          refine wpAnyX_tq 6 ?_
          refine wpAnyX_tq 7 ?_
          refine wpAnyX_tq 8 ?_
          refine wpAnyX_tq 9 ?_
          refine wpAnyX_tq 10 ?_
          refine wpAnyX_oq 11 fun K hK => ?_
          go_wp2_with fail
          have G2 := (G.alloc (.cells #[.string field, .string text] 138)).drew; have C2 := (C.alloc (.cells #[.string field, .string text] 138)).drew; have R2 := (R.alloc (.cells #[.string field, .string text] 138)).drew; have N2 := (N.al (.cells #[.string field, .string text] 138)).dr
          have X2 : Blk (wc.alloc (.cells #[.string field, .string text] 138)).drew wc.heap.size 138 #[.string field, .string text] := Blk.new _ _ _
          have q2 : Mov B w (wc.alloc (.cells #[.string field, .string text] 138)).drew := ((Mov.of q hBw).alloc hBc _).drew
          have hwl : (wc.alloc (.cells #[.string field, .string text] 138)).drew.heap.size = wc.heap.size + 1 := by simp
          have HWL := hide hwl
          have hone : ∀ u ∈ (#[Value.string field, Value.string text] : Array Value).toList, u.oneCell' = true := by intro u hu; simp at hu; rcases hu with rfl | rfl <;> rfl
          clear hwl
          refine hK.out _ _ (Or.inr ⟨G2.cell 3, C2.cell 2, C2.cell 3⟩) (fun hS => ?_)
          replace hS := hS.resolve_left (by decide)
          clear hK K G1 C1 R1 N1 q1
          have N2p := N2.1
          refine wpAnyX_oq 12 fun K hK => ?_
          go_wp2_with fail
          ((with_reducible refine (Insert_pair A1 n1 c1 B ix wc.heap.size (pairRows ps) #[.string field, .string text] _ N2p (pair_one _) hixn (by omega) X2 rfl hone ?hbv (by rw [HWL.out]; omega)).mono ?_)
           case hbv =>
            intro e
            obtain ⟨cur, hcur⟩ := own_typed N.1 e.symm
            have : wc.heap.size < wc.heap.size := (Array.getElem?_eq_some_iff.1 hcur).1
            omega
           rintro e w3 ⟨A', n', c', rfl, o3, g3⟩)
          go_wp2_with fail
          have hwB : B ≤ (wc.alloc (.cells #[.string field, .string text] 138)).drew.heap.size := by rw [HWL.out]; omega
          have G3 := blk_other G2 N2.1 g3; have C3 := blk_other C2 N2.1 g3; have R3 := blk_other R2 N2.1 g3
          have q3 := q2.trans (mov_grown N2.1 g3 hwB)
          have N3 : VNew w3 B ⟨vk, vt, vc, insRows ps ix ⟨field, text⟩, is_, ss⟩ (.slice A' n' c') (.slice A2 n2 c2) (.slice A3 n3 c3) := ⟨by have := o3; simp only [insRows, pairRows, List.map_append, List.map_take, List.map_drop] at this ⊢; exact this, own_other N2.2.1 N2.1 g3, own_other N2.2.2 N2.1 g3⟩
          refine hK.out _ _ (Or.inr ⟨G3.cell 3, C3.cell 2, C3.cell 3⟩) (fun hS => ?_)
          replace hS := hS.resolve_left (by decide)
          clear hK K G2 C2 R2 N2 q2 X2 o3 g3
          (try clear cG3 fG3); have cG3 := G3.cell; have fG3 := G3.frozen
          refine wpAnyX_ps 13 ?_
          refine wpAnyX_ps 14 ?_
          refine wpAnyX_oq 15 fun K hK => ?_
          go_wp2_with fail
          have G4 := G3.set' (i := 3) (u := .slice A' n' c') rfl
          have R4 := R3.far (p := ⟨g, 3, none⟩) (by simp; omega) (.slice A' n' c')
          have N4 := N3.st' G3 3 (.slice A' n' c')
          have q4 := q3.setV G3 hg 3 (.slice A' n' c')
          refine hK.out _ _ (Or.inl (by decide)) (fun hS => ?_)
          clear hK K hS G3 R3 N3 q3 cG3 fG3 cG fG cC fC
          refine wpAnyX_done (by kernel_rfl) ?_ _
          go_wp2_with fail
          refine (told_any 1 _).mono ?_
          rintro e w9 ⟨rfl, hb9⟩
          have R9 := (R4).below' hb9
          (try clear cR9 fR9); have cR9 := R9.cell; have fR9 := R9.frozen
          obtain ⟨P, R6⟩ := re_done (k0 := 0) (t0 := emp) (m0 := 1) ((G4).below' hb9) R9 ((N4).bl hb9) (mov_post q4 (by have := (q4).size; omega) hb9) (by omega) (by omega) (by omega)
          go_wp2_with fail
          have cR6 := R6.cell
          refine bodyPost_ret (v := .agg #[.int .i64 0, .string emp, .int .i64 1, .slice none 0 0]) ?_ rfl (by rw [HV.out]; exact P)
          simp [results, Try.results121, go_sem, cR6]
    · cases has with
      | true =>
        obtain ⟨y, hy, hyf⟩ := HQ.out rfl
        have hixl : ix < ps.length := by
          rcases Nat.lt_or_ge ix ps.length with h' | h'
          · exact h'
          · rw [List.getElem?_eq_none h'] at hy; cases hy
        have hpt : pairText ps ix = y.text := by unfold pairText; rw [hy]
        have hv : D = (⟨vk, vt, vc, ps, is_, ss⟩, textR y.text) := by rw [HD.out]; simp [hpt]
        have HV := hide hv
        clear HD hv HQ hpt hple
        have hn1 := HL.out
        obtain ⟨b, hb1, hb2, hb3, -, hb5, hb6⟩ := N.1.block (by simp [pairRows]; omega)
        subst hb1
        have hcx : wc.cell? ⟨b, ix * 2 + 1, none⟩ = some (.string y.text) := hb6 ix y.cells (by simp [pairRows, hy]) 1 _ rfl
        have hz1 : (0 : Int) ≤ ix := by omega
        have hz2 : (ix : Int) < n1 := by omega
        (try clear cG fG); have cG := G.cell; have fG := G.frozen; (try clear cC fC); have cC := C.cell; have fC := C.frozen; (try clear cR fR); have cR := R.cell; have fR := R.frozen
        clear hyf hy HL hn1 hb6
        obtain ⟨P, R6⟩ := re_done (k0 := 0) (t0 := y.text) (m0 := 0) G R N (Mov.of q hBw) (by omega) (by omega) (by omega)
        go_wp2_with fail
        have cR6 := R6.cell
        refine bodyPost_ret (v := .agg #[.int .i64 0, .string y.text, .int .i64 0, .slice none 0 0]) ?_ rfl (by rw [HV.out]; exact P)
        simp [results, Try.results121, go_sem, cR6]
      | false =>
        have hv : D = (⟨vk, vt, vc, ps, is_, ss⟩, failR 5) := by rw [HD.out]; simp [*]
        have HV := hide hv
        clear HD hv HQ
        clear hple
        (try clear cG fG); have cG := G.cell; have fG := G.frozen; (try clear cC fC); have cC := C.cell; have fC := C.frozen
        go_wp2_with fail
        refine (failed_any 5 _).mono ?_
        rintro e w9 ⟨rfl, hb9⟩
        have R9 := (R).below' hb9
        (try clear cR9 fR9); have cR9 := R9.cell; have fR9 := R9.frozen
        obtain ⟨P, R6⟩ := re_done (k0 := 5) (t0 := emp) (m0 := 0) ((G).below' hb9) R9 ((N).bl hb9) (mov_post (Mov.of q hBw) (by have := ((Mov.of q hBw)).size; omega) hb9) (by omega) (by omega) (by omega)
        go_wp2_with fail
        have cR6 := R6.cell
        refine bodyPost_ret (v := .agg #[.int .i64 5, .string emp, .int .i64 0, .slice none 0 0]) ?_ rfl (by rw [HV.out]; exact P)
        simp [results, Try.results121, go_sem, cR6]
    · cases has with
      | true =>
        obtain ⟨y, hy, hyf⟩ := HQ.out rfl
        have hixl : ix < ps.length := by
          rcases Nat.lt_or_ge ix ps.length with h' | h'
          · exact h'
          · rw [List.getElem?_eq_none h'] at hy; cases hy
        have hpt : pairText ps ix = y.text := by unfold pairText; rw [hy]
        have hv : D = (⟨vk, vt, vc, delRows ps ix, is_, ss⟩, toldR 1) := by rw [HD.out]; simp [hpt]
        have HV := hide hv
        clear HD hv HQ hpt hple
        have hn1 := HL.out
        have Np := N.1
        have hin : ix < n1 := by omega
        have hwi : IntKind.i64.wrap ((ix : Int) + 1) = (ix : Int) + 1 := IntWalk.i64_in _ (by omega)
        (try clear cG fG); have cG := G.cell; have fG := G.frozen; (try clear cC fC); have cC := C.cell; have fC := C.frozen
        clear hyf hy HL hn1
        go_wp2_with fail
        ((with_reducible refine (Delete_pair A1 n1 c1 B ix (pairRows ps) _ Np (pair_one _) hin (by omega)).mono ?_); rintro e w3 ⟨A', n', c', rfl, o3, g3⟩)
        have G3 := blk_other G Np g3; have R3 := blk_other R Np g3
        have q3 := (Mov.of q hBw).trans (mov_grown Np g3 hBc)
        have N3 : VNew w3 B ⟨vk, vt, vc, delRows ps ix, is_, ss⟩ (.slice A' n' c') (.slice A2 n2 c2) (.slice A3 n3 c3) := ⟨by have := o3; simp only [delRows, pairRows, List.map_append, List.map_take, List.map_drop] at this ⊢; exact this, own_other N.2.1 Np g3, own_other N.2.2 Np g3⟩
        clear cG fG cC fC o3 g3
        (try clear cG3 fG3); have cG3 := G3.cell; have fG3 := G3.frozen
        go_wp2_with fail
        have G4 := G3.set' (i := 3) (u := .slice A' n' c') rfl
        have R4 := R3.far (p := ⟨g, 3, none⟩) (by simp; omega) (.slice A' n' c')
        have N4 := N3.st' G3 3 (.slice A' n' c')
        have q4 := q3.setV G3 hg 3 (.slice A' n' c')
        clear cG3 fG3
        refine (flag_any true _).mono ?_
        rintro e w' ⟨rfl, rfl⟩
        go_wp2_with fail
        refine (told_any (flagI true) _).mono ?_
        rintro e w9 ⟨rfl, hb9⟩
        have R9 := (R4).below' hb9
        (try clear cR9 fR9); have cR9 := R9.cell; have fR9 := R9.frozen
        obtain ⟨P, R6⟩ := re_done (k0 := 0) (t0 := emp) (m0 := (flagI true)) ((G4).below' hb9) R9 ((N4).bl hb9) (mov_post q4 (by have := (q4).size; omega) hb9) (by omega) (by omega) (by omega)
        go_wp2_with fail
        have cR6 := R6.cell
        refine bodyPost_ret (v := .agg #[.int .i64 0, .string emp, .int .i64 (flagI true), .slice none 0 0]) ?_ rfl (by rw [HV.out]; exact P)
        simp [results, Try.results121, go_sem, cR6]
      | false =>
        have hv : D = (⟨vk, vt, vc, ps, is_, ss⟩, toldR 0) := by rw [HD.out]; simp [*]
        have HV := hide hv
        clear HD hv HQ
        clear hple
        (try clear cG fG); have cG := G.cell; have fG := G.frozen; (try clear cC fC); have cC := C.cell; have fC := C.frozen
        go_wp2_with fail
        refine (flag_any false _).mono ?_
        rintro e w' ⟨rfl, rfl⟩
        go_wp2_with fail
        refine (told_any (flagI false) _).mono ?_
        rintro e w9 ⟨rfl, hb9⟩
        have R9 := (R).below' hb9
        (try clear cR9 fR9); have cR9 := R9.cell; have fR9 := R9.frozen
        obtain ⟨P, R6⟩ := re_done (k0 := 0) (t0 := emp) (m0 := (flagI false)) ((G).below' hb9) R9 ((N).bl hb9) (mov_post (Mov.of q hBw) (by have := ((Mov.of q hBw)).size; omega) hb9) (by omega) (by omega) (by omega)
        go_wp2_with fail
        have cR6 := R6.cell
        refine bodyPost_ret (v := .agg #[.int .i64 0, .string emp, .int .i64 (flagI false), .slice none 0 0]) ?_ rfl (by rw [HV.out]; exact P)
        simp [results, Try.results121, go_sem, cR6]
end Go.Proofs.Ytmkheplfdajadaa
