import Derived.Test.YtmkheplfdajadaaStoP
import Derived.Test.YtmkheplfdajadaaValsP
/- store.Apply. -/
namespace Go.Proofs.Ytmkheplfdajadaa
set_option linter.all false
open Go.RowKit
attribute [local go_sem ↓] Go.wp_at_zero Go.wp_at_succ
def ApplyPost (R : (Int × List En) × Re × Int) (w : World) (e : Ending) (w' : World) : Prop :=
  ∃ A n c Y m d, e = .returned (.tuple #[.agg #[.int .i64 R.1.1, .slice A n c], .agg #[.int .i64 R.2.1.code, .string R.2.1.text, .int .i64 R.2.1.n, .slice Y m d], .int .i64 R.2.2]) ∧ StOwn w' w.heap.size A n c R.1.2 ∧ Sl w' 1 Y m d (strRows R.2.1.list) ∧ Tp w' Y 9 ∧ Below w.heap.size w w'
/-- The results are laid into their blocks, and handed back. -/
theorem apply_done {w w2 : World} {s : Int × List En} {r : Re} {k : Int} {b1 b2 : Nat} {A Y : Option Addr} {n c m d : Nat} {x0 x1 y0 y1 y2 y3 : Value} {a0 k0 m0 : Int} {t0 : ByteArray}
    (P : Blk w2 b1 43 #[x0, x1]) (R : Blk w2 b2 78 #[y0, y1, y2, y3]) (O : StOwn w2 w.heap.size A n c s.2) (L : Sl w2 1 Y m d (strRows r.list)) (Ty : Tp w2 Y 9) (q : Below w.heap.size w w2) (h1 : w.heap.size ≤ b1) (h2 : w.heap.size ≤ b2)
    (ha : a0 = s.1) (hk : k0 = r.code) (ht : t0 = r.text) (hm : m0 = r.n) :
    ApplyPost (s, r, k) w (.returned (.tuple #[.agg #[.int .i64 a0, .slice A n c], .agg #[.int .i64 k0, .string t0, .int .i64 m0, .slice Y m d], .int .i64 k])) ((((((w2.setCell ⟨b1, 0, none⟩ (.int .i64 a0)).setCell ⟨b1, 1, none⟩ (.slice A n c)).setCell ⟨b2, 0, none⟩ (.int .i64 k0)).setCell ⟨b2, 1, none⟩ (.string t0)).setCell ⟨b2, 2, none⟩ (.int .i64 m0)).setCell ⟨b2, 3, none⟩ (.slice Y m d)) ∧
    Blk ((((((w2.setCell ⟨b1, 0, none⟩ (.int .i64 a0)).setCell ⟨b1, 1, none⟩ (.slice A n c)).setCell ⟨b2, 0, none⟩ (.int .i64 k0)).setCell ⟨b2, 1, none⟩ (.string t0)).setCell ⟨b2, 2, none⟩ (.int .i64 m0)).setCell ⟨b2, 3, none⟩ (.slice Y m d)) b1 43 #[.int .i64 a0, .slice A n c] ∧
    Blk ((((((w2.setCell ⟨b1, 0, none⟩ (.int .i64 a0)).setCell ⟨b1, 1, none⟩ (.slice A n c)).setCell ⟨b2, 0, none⟩ (.int .i64 k0)).setCell ⟨b2, 1, none⟩ (.string t0)).setCell ⟨b2, 2, none⟩ (.int .i64 m0)).setCell ⟨b2, 3, none⟩ (.slice Y m d)) b2 78 #[.int .i64 k0, .string t0, .int .i64 m0, .slice Y m d] := by
  subst ha; subst hk; subst ht; subst hm
  have P2 := (P.set' (i := 0) (u := .int .i64 s.1) rfl).set' (i := 1) (u := .slice A n c) rfl
  have gr := grown_trans (grown_setRow_cell w2 b1 0 (.int .i64 s.1)) (grown_setRow_cell _ b1 1 (.slice A n c))
  have hne : b1 ≠ b2 := blk_ne P R (by decide)
  have R2 := grown_blk R gr hne.symm
  have f2 := Fr.grown P gr
  have O2 := O.grown P gr
  have q2 := below_grow q gr q.size h1
  obtain ⟨X9, gr9, -⟩ := whole_reply (.int .i64 r.code) (.string r.text) (.int .i64 r.n) (.slice Y m d) R2
  have f9 := Fr.grown R2 gr9
  exact ⟨⟨A, n, c, Y, m, d, rfl, O2.grown R2 gr9, str_fr (str_fr L Ty f2) (tps_fr Ty f2) f9, tps_fr (tps_fr Ty f2) f9, below_grow q2 gr9 q2.size h2⟩, grown_blk P2 gr9 hne, X9⟩
set_option maxHeartbeats 16000000 in
set_option maxRecDepth 100000 in
theorem Apply_any (now : Int) (A : Option Addr) (n c : Nat) (l : List En) (time : Int) (cm : Cmd) (w : World) (h : StSl w A n c l) (hn : n ≤ 1048576) (hsm : ∀ x ∈ l, small x.val 1048576) (ht1 : -9223372036854775808 ≤ time) (ht2 : time ≤ 9223372036854775807) :
    Calls Try.prog 21 #[.agg #[.int .i64 now, .slice A n c], .int .i64 time, .agg #[.int .i64 cm.kind, .string cm.key, .string cm.field, .string cm.text, .int .i64 cm.n]] w (ApplyPost (applyS now l time cm) w) := by
  obtain ⟨R, hR⟩ : ∃ R, R = applyS now l time cm := ⟨_, rfl⟩
  rw [← hR]
  unfold applyS at hR
  have hchk := fun wz (hz : Below w.heap.size w wz) => CheckS_any now A n c l wz (h.bl hz) hn hsm
  have hown := fun wz (hz : Below w.heap.size w wz) => ownS_any now A n c l wz (h.bl hz) hn hsm
  have hcc := fun wz => CheckCommand_any cm.kind cm.key cm.field cm.text cm.n wz
  have hcd : checkCommand cm.kind cm.key cm.field cm.text cm.n = ccOf cm := rfl
  simp only [hcd] at hcc
  have hso := @store_ok now l
  have hdo := fun (now' : Int) (l' : List En) B g a t wz hz hok => fun hcz hg hB => doK_any cm B g now' a t l' wz hz hok hcz hg hB
  have hdok := fun (now' : Int) (l' : List En) h1 h2 => doS_ok (now := now') (l := l') (c := cm) h1 h2
  generalize checkStore now l = cs at *
  generalize hccz : ccOf cm = cc at *
  obtain ⟨ck, ckey, cf, ct, cn⟩ := cm
  simp only at hR hcc hdo ⊢
  have HR := hide hR; have HCHK := hide hchk; have HOWN := hide hown; have HCC := hide hcc; have HSO := hide hso; have HDO := hide hdo; have HDOK := hide hdok
  clear hR hchk hown hcc hcd hso hdo hdok hccz
  have q0 : Below w.heap.size w ((((w.alloc (.cells #[.int .i64 now, .slice A n c] 43)).alloc (.cells #[.int .i64 ck, .string ckey, .string cf, .string ct, .int .i64 cn] 27)).alloc (.cells #[.int .i64 0, .slice none 0 0] 43)).alloc (.cells #[.int .i64 0, .string { data := #[] }, .int .i64 0, .slice none 0 0] 78)) := below_by
  have S0 : Blk ((((w.alloc (.cells #[.int .i64 now, .slice A n c] 43)).alloc (.cells #[.int .i64 ck, .string ckey, .string cf, .string ct, .int .i64 cn] 27)).alloc (.cells #[.int .i64 0, .slice none 0 0] 43)).alloc (.cells #[.int .i64 0, .string { data := #[] }, .int .i64 0, .slice none 0 0] 78)) w.heap.size 43 #[.int .i64 now, .slice A n c] := (((Blk.new _ _ _).alloc _).alloc _).alloc _
  have C0 : Blk ((((w.alloc (.cells #[.int .i64 now, .slice A n c] 43)).alloc (.cells #[.int .i64 ck, .string ckey, .string cf, .string ct, .int .i64 cn] 27)).alloc (.cells #[.int .i64 0, .slice none 0 0] 43)).alloc (.cells #[.int .i64 0, .string { data := #[] }, .int .i64 0, .slice none 0 0] 78)) (w.heap.size + 1) 27 #[.int .i64 ck, .string ckey, .string cf, .string ct, .int .i64 cn] := ((Blk.new' _ _ _ (by simp)).alloc _).alloc _
  have P0 : Blk ((((w.alloc (.cells #[.int .i64 now, .slice A n c] 43)).alloc (.cells #[.int .i64 ck, .string ckey, .string cf, .string ct, .int .i64 cn] 27)).alloc (.cells #[.int .i64 0, .slice none 0 0] 43)).alloc (.cells #[.int .i64 0, .string { data := #[] }, .int .i64 0, .slice none 0 0] 78)) (w.heap.size + 2) 43 #[.int .i64 0, .slice none 0 0] := (Blk.new' _ _ _ (by simp)).alloc _
  have R0 : Blk ((((w.alloc (.cells #[.int .i64 now, .slice A n c] 43)).alloc (.cells #[.int .i64 ck, .string ckey, .string cf, .string ct, .int .i64 cn] 27)).alloc (.cells #[.int .i64 0, .slice none 0 0] 43)).alloc (.cells #[.int .i64 0, .string { data := #[] }, .int .i64 0, .slice none 0 0] 78)) (w.heap.size + 3) 78 #[.int .i64 0, .string { data := #[] }, .int .i64 0, .slice none 0 0] := Blk.new' _ _ _ (by simp)
  go_enter Try.func21, Try.ntmps21
  go_wp2_with fail
  refine (HCHK.out _ q0).mono ?_
  rintro e w1 ⟨rfl, hb1⟩
  replace S0 := S0.below' hb1; replace C0 := C0.below' hb1; replace P0 := P0.below' hb1; replace R0 := R0.below' hb1
  have q := bstep q0 hb1
  clear q0 hb1 HCHK
  have hrl := R0.lt
  have hs1 : w.heap.size < w1.heap.size := by omega
  have hs2 : w.heap.size + 1 < w1.heap.size := by omega
  have hs3 : w.heap.size + 2 < w1.heap.size := by omega
  by_cases hcs : cs = 0
  · by_cases htb : time < 0 ∨ 1073741824 < time
    · have hr := HR.out
      rw [if_neg (by simpa using hcs), if_pos htb] at hr
      subst hr
      subst hcs
      by_cases ht0 : time < 0
      · have hPX := apply_done (s := (0, [])) (r := zeroRe) (k := 2) (a0 := 0) (A := none) (n := 0) (c := 0) (k0 := 0) (t0 := { data := #[] }) (m0 := 0) (Y := none) (m := 0) (d := 0) P0 R0 ⟨[], Own.nil, trivial⟩ (Sl.nil_ _ _) Tp.none_ q (by omega) (by omega) rfl rfl rfl rfl
        have HPX := hide hPX
        clear hPX
        (try clear cP0 fP0); have cP0 := P0.cell; have fP0 := P0.frozen; (try clear cR0 fR0); have cR0 := R0.cell; have fR0 := R0.frozen
        go_wp2_with fail
        obtain ⟨P, X9, Y9⟩ := HPX.out
        have cX9 := X9.cell; have cY9 := Y9.cell
        refine bodyPost_ret (v := .tuple #[.agg #[.int .i64 0, .slice none 0 0], .agg #[.int .i64 0, .string { data := #[] }, .int .i64 0, .slice none 0 0], .int .i64 2]) ?_ rfl P
        simp [results, Try.results21, go_sem, cX9, cY9]
      · have ht9 : 1073741824 < time := by omega
        have hPX := apply_done (s := (0, [])) (r := zeroRe) (k := 2) (a0 := 0) (A := none) (n := 0) (c := 0) (k0 := 0) (t0 := { data := #[] }) (m0 := 0) (Y := none) (m := 0) (d := 0) P0 R0 ⟨[], Own.nil, trivial⟩ (Sl.nil_ _ _) Tp.none_ q (by omega) (by omega) rfl rfl rfl rfl
        have HPX := hide hPX
        clear hPX
        (try clear cP0 fP0); have cP0 := P0.cell; have fP0 := P0.frozen; (try clear cR0 fR0); have cR0 := R0.cell; have fR0 := R0.frozen
        go_wp2_with fail
        obtain ⟨P, X9, Y9⟩ := HPX.out
        have cX9 := X9.cell; have cY9 := Y9.cell
        refine bodyPost_ret (v := .tuple #[.agg #[.int .i64 0, .slice none 0 0], .agg #[.int .i64 0, .string { data := #[] }, .int .i64 0, .slice none 0 0], .int .i64 2]) ?_ rfl P
        simp [results, Try.results21, go_sem, cX9, cY9]
    · have ht0 : ¬ time < 0 := by omega
      have ht9 : ¬ 1073741824 < time := by omega
      have hr0 := HR.out
      rw [if_neg (by simpa using hcs), if_neg htb] at hr0
      have HR2 := hide hr0
      have hok := HSO.out hcs
      clear HR
      subst hcs
      have HOK := hide hok
      clear hr0 hok HSO htb
      (try clear cC0 fC0); have cC0 := C0.cell; have fC0 := C0.frozen
      go_wp2_with fail
      refine (HCC.out _).mono ?_
      rintro e w2 ⟨rfl, hb2⟩
      replace S0 := S0.below' hb2; replace C0 := C0.below' hb2; replace P0 := P0.below' hb2; replace R0 := R0.below' hb2
      replace q := bstep q hb2
      clear hb2 HCC cC0 fC0
      have hrl := R0.lt
      have hs1 : w.heap.size < w2.heap.size := by omega
      have hs2 : w.heap.size + 1 < w2.heap.size := by omega
      have hs3 : w.heap.size + 2 < w2.heap.size := by omega
      by_cases hcz : cc = 0
      · have hr := HR2.out
        rw [if_neg (by simpa using hcz)] at hr
        subst hcz
        have hlive : ∀ t, (l.filter fun x => !gone t x) = alive t l := fun _ => rfl
        obtain ⟨tt, htt⟩ : ∃ tt, tt = max now time := ⟨_, rfl⟩
        rw [← htt] at hr
        have hm2 : max now time = tt := htt.symm
        have hok := alive_ok HOK.out (t := tt) (by have := HOK.out.now0; omega) (by have := HOK.out.now1; omega)
        have HDONE := hide (HDOK.out tt (alive tt l) hok rfl)
        have HOK2 := hide hok
        have HM2 := hide hm2
        clear htt hok hm2 HDOK
        subst hr
        (try clear cS0 fS0); have cS0 := S0.cell; have fS0 := S0.frozen
        go_wp2_with fail
        refine (HOWN.out _ q).mono ?_
        rintro e w3 ⟨A1, n1, c1, rfl, O3, hb3⟩
        replace C0 := C0.below' hb3; replace P0 := P0.below' hb3; replace R0 := R0.below' hb3
        have hBw : w.heap.size ≤ w2.heap.size := q.size
        replace q := bstep q hb3
        have h3s := hb3.size
        clear cS0 fS0 S0 HOWN hb3
        have K4 : Blk ((w3.alloc (.cells #[.int .i64 now, .slice A1 n1 c1, .int .i64 0, .bool false] 124)).alloc (.cells #[.pointer (some ⟨w3.heap.size, 0, none⟩)] 121)) w3.heap.size 124 #[.int .i64 now, .slice A1 n1 c1, .int .i64 0, .bool false] := (Blk.new _ _ _).alloc _
        have U4 : Blk ((w3.alloc (.cells #[.int .i64 now, .slice A1 n1 c1, .int .i64 0, .bool false] 124)).alloc (.cells #[.pointer (some ⟨w3.heap.size, 0, none⟩)] 121)) (w3.heap.size + 1) 121 #[.pointer (some ⟨w3.heap.size, 0, none⟩)] := Blk.new' _ _ _ (by simp)
        have bx : Below w3.heap.size w3 ((w3.alloc (.cells #[.int .i64 now, .slice A1 n1 c1, .int .i64 0, .bool false] 124)).alloc (.cells #[.pointer (some ⟨w3.heap.size, 0, none⟩)] 121)) := below_by
        have C4 := C0.below' bx; have P4 := P0.below' bx; have R4 := R0.below' bx; have q4 := bstep q bx; have O4 := O3.bl bx
        go_wp2_with fail
        obtain ⟨w4, hw4⟩ : ∃ w4, w4 = ((w3.alloc (.cells #[.int .i64 now, .slice A1 n1 c1, .int .i64 0, .bool false] 124)).alloc (.cells #[.pointer (some ⟨w3.heap.size, 0, none⟩)] 121)) := ⟨_, rfl⟩
        rw [← hw4] at K4 U4 C4 P4 R4 q4 O4 ⊢
        clear hw4 bx C0 P0 R0 q O3
        have hgB : w2.heap.size ≤ w3.heap.size := h3s
        have hul := U4.lt
        have hB4 : w2.heap.size ≤ w4.heap.size := by omega
        refine wp_region_x (l := [11]) (S := fun w' => w'.cell? ⟨w3.heap.size + 1, 0, none⟩ = some (.pointer (some ⟨w3.heap.size, 0, none⟩)) ∧ w'.cell? ⟨w3.heap.size, 0, none⟩ = some (.int .i64 now)) (by kernel_rfl) ⟨U4.drew.cell 0, K4.drew.cell 0⟩ (fun hS => ?_)
        refine wpAnyX_tq 0 ?_
        refine wpAnyX_tq 1 ?_
        refine wpAnyX_tq 2 ?_
        refine wpAnyX_tq 3 ?_
        refine wpAnyX_tq 4 ?_
        refine wpAnyX_tq 5 ?_
        refine wpAnyX_tq 6 ?_
        refine wpAnyX_tq 7 ?_
        (try simp only [HM2.out])
        refine wpAnyX_ps 8 ?_
        refine wpAnyX_ps 9 ?_
        refine wpAnyX_ps 10 ?_
        (try clear cK4 fK4); have cK4 := K4.cell; have fK4 := K4.frozen
        refine wpAnyX_oq 11 fun K hK => ?_
        go_wp2_with fail
        refine hK.out _ _ (Or.inl (by decide)) (fun hS => ?_)
        clear hK K hS cK4 fK4
        refine wpAnyX_done (by kernel_rfl) ?_ _
        have K5 := (K4.set' (i := 0) (u := .int .i64 tt) rfl).drew
        have gr5 := grown_setRow_cell w4 w3.heap.size 0 (.int .i64 tt)
        have hug : w3.heap.size + 1 ≠ w3.heap.size := by omega
        have U5 := (grown_blk U4 gr5 hug).drew
        have O5 := (O4.grown K4 gr5).dr
        have C5 := (grown_blk C4 gr5 (by omega)).drew; have P5 := (grown_blk P4 gr5 (by omega)).drew; have R5 := (grown_blk R4 gr5 (by omega)).drew
        have q5 := (below_grow q4 gr5 q4.size (by omega)).drew
        obtain ⟨w5, hw5⟩ : ∃ w5, w5 = (w4.setCell ⟨w3.heap.size, 0, none⟩ (.int .i64 tt)).drew := ⟨_, rfl⟩
        have hs5 : w5.heap.size = w4.heap.size := by rw [hw5]; simp
        rw [← hw5] at K5 U5 C5 P5 R5 q5 O5 ⊢
        clear hw5 gr5 K4 U4 C4 P4 R4 q4 O4
        have hB5 : w2.heap.size ≤ w5.heap.size := by omega
        go_wp2_with fail
        refine wp_region_x (l := [11]) (S := fun w' => w'.cell? ⟨w3.heap.size + 1, 0, none⟩ = some (.pointer (some ⟨w3.heap.size, 0, none⟩)) ∧ w'.cell? ⟨w3.heap.size, 1, none⟩ = some (.slice A1 n1 c1)) (by kernel_rfl) ⟨U5.drew.cell 0, K5.drew.cell 1⟩ (fun hS => ?_)
        refine wpAnyX_tq 0 ?_
        refine wpAnyX_tq 1 ?_
        refine wpAnyX_tq 2 ?_
        refine wpAnyX_tq 3 ?_
        refine wpAnyX_tq 4 ?_
        refine wpAnyX_tq 5 ?_
        refine wpAnyX_tq 6 ?_
        have hdf := DelFunc_ent 51 (run_enter Try.func51 (by kernel_rfl) (by kernel_rfl)) (gone tt) w5.drew w2.heap.size (w3.heap.size + 1)
          (fun x s1 s2 s3 w' hm => gone_ x s1 s2 s3 (w3.heap.size + 1) w3.heap.size tt w' (hm.frm _ _ _ U5.drew (by decide)).lt ((hm.frm _ _ _ U5.drew (by decide)).cell 0) (hm.frm _ _ _ K5.drew (by decide)).lt ((hm.frm _ _ _ K5.drew (by decide)).cell 0))
          A1 n1 c1 l (by have := O5.sl.len; have := HOK.out.few; omega) O5.dr hB5
        rw [hlive] at hdf
        have HDF := hide hdf
        clear hdf
        refine wpAnyX_oq 7 fun K hK => ?_
        go_wp2_with fail
        ((with_reducible refine HDF.out.mono ?_); rintro e w6 ⟨A', n', c', rfl, O6, e6⟩)
        go_wp2_with fail
        have U6 := e6.frm _ _ _ U5.drew (by decide); have K6 := e6.frm _ _ _ K5.drew (by decide); have C6 := e6.frm _ _ _ C5.drew (by decide); have P6 := e6.frm _ _ _ P5.drew (by decide); have R6 := e6.frm _ _ _ R5.drew (by decide)
        have q6 : Below w.heap.size w w6 := q5.drew.trans (e6.bel.mono hBw)
        have hs6 := e6.size
        refine hK.out _ _ (Or.inr ⟨U6.cell 0, K6.cell 1⟩) (fun hS => ?_)
        replace hS := hS.resolve_left (by decide)
        clear hK K HDF K5 U5 C5 P5 R5 q5 O5 e6
        (try clear cK6 fK6); have cK6 := K6.cell; have fK6 := K6.frozen
        refine wpAnyX_ps 8 ?_
        refine wpAnyX_ps 9 ?_
        refine wpAnyX_ps 10 ?_
        refine wpAnyX_oq 11 fun K hK => ?_
        go_wp2_with fail
        refine hK.out _ _ (Or.inl (by decide)) (fun hS => ?_)
        clear hK K hS cK6 fK6
        refine wpAnyX_done (by kernel_rfl) ?_ _
        have K7 := K6.set' (i := 1) (u := .slice A' n' c') rfl
        have gr7 := grown_setRow_cell w6 w3.heap.size 1 (.slice A' n' c')
        have U7 := grown_blk U6 gr7 hug
        have O7 := O6.grown K6 gr7
        have C7 := grown_blk C6 gr7 (by omega); have P7 := grown_blk P6 gr7 (by omega); have R7 := grown_blk R6 gr7 (by omega)
        have q7 := below_grow q6 gr7 q6.size (by omega)
        obtain ⟨w7, hw7⟩ : ∃ w7, w7 = w6.setCell ⟨w3.heap.size, 1, none⟩ (.slice A' n' c') := ⟨_, rfl⟩
        have hs7 : w7.heap.size = w6.heap.size := by rw [hw7]; simp
        rw [← hw7] at K7 U7 C7 P7 R7 q7 O7 ⊢
        clear hw7 gr7 K6 U6 C6 P6 R6 q6 O6
        have hB7 : w2.heap.size ≤ w7.heap.size := by simp at hs6; omega
        have hul7 := U7.lt
        have hgl7 := K7.lt
        have hcl7 := C7.lt
        have hdoc := HDO.out tt (alive tt l) w2.heap.size w3.heap.size 0 false w7 ⟨A', n', c', K7, O7⟩ HOK2.out.ens (by simp) hgB hB7
        have hdn := HDONE.out
        generalize doS tt (alive tt l) ⟨ck, ckey, cf, ct, cn⟩ = Dd at *
        obtain ⟨lr, ⟨rc, rt, rn, rl⟩⟩ := Dd
        have HDOC := hide hdoc
        have HDN := hide hdn
        clear hdoc hdn HDO HDONE hlive
        (try clear cU7 fU7); have cU7 := U7.cell; have fU7 := U7.frozen; (try clear cC7 fC7); have cC7 := C7.cell; have fC7 := C7.frozen
        go_wp2_with fail
        refine HDOC.out.mono ?_
        rintro e w8 ⟨Y, m, d, rfl, L8, T8, ⟨a8, t8, A8, n8, c8, K8, O8⟩, k8⟩
        have U8 := k8.frm _ _ _ U7 (by decide) (by decide); have P8 := k8.frm _ _ _ P7 (by decide) (by decide); have R8 := k8.frm _ _ _ R7 (by decide) (by decide)
        have q8 : Below w.heap.size w w8 := q7.trans (k8.bel.mono hBw)
        have hs8 := k8.size
        clear cU7 fU7 cC7 fC7 HDOC K7 U7 C7 P7 R7 q7 O7 k8
        simp only at L8 O8
        have bx8 : Below w8.heap.size w8 (w8.alloc (.cells #[.int .i64 rc, .string rt, .int .i64 rn, .slice Y m d] 78)) := below_by
        have Q9 : Blk (w8.alloc (.cells #[.int .i64 rc, .string rt, .int .i64 rn, .slice Y m d] 78)) w8.heap.size 78 #[.int .i64 rc, .string rt, .int .i64 rn, .slice Y m d] := Blk.new _ _ _
        have K9 := K8.below' bx8; have U9 := U8.below' bx8; have P9 := P8.below' bx8; have R9 := R8.below' bx8
        have O9 := O8.bl bx8; have L9 := L8.below bx8; have T9 := T8.bl bx8; have q9 := bstep q8 bx8
        go_wp2_with fail
        obtain ⟨w9, hw9⟩ : ∃ w9, w9 = w8.alloc (.cells #[.int .i64 rc, .string rt, .int .i64 rn, .slice Y m d] 78) := ⟨_, rfl⟩
        rw [← hw9] at Q9 K9 U9 P9 R9 O9 L9 T9 q9 ⊢
        clear hw9 bx8 K8 U8 P8 R8 O8 L8 T8 q8
        refine wp_region_x (l := []) (S := fun w' => w'.cell? ⟨w3.heap.size + 1, 0, none⟩ = some (.pointer (some ⟨w3.heap.size, 0, none⟩)) ∧ w'.cell? ⟨w3.heap.size, 0, none⟩ = some (.int .i64 tt) ∧ w'.cell? ⟨w3.heap.size, 1, none⟩ = some (.slice A8 n8 c8) ∧ w'.cell? ⟨w8.heap.size, 0, none⟩ = some (.int .i64 rc) ∧ w'.cell? ⟨w8.heap.size, 1, none⟩ = some (.string rt) ∧ w'.cell? ⟨w8.heap.size, 2, none⟩ = some (.int .i64 rn) ∧ w'.cell? ⟨w8.heap.size, 3, none⟩ = some (.slice Y m d)) (by kernel_rfl)
          ⟨U9.drew.cell 0, K9.drew.cell 0, K9.drew.cell 1, Q9.drew.cell 0, Q9.drew.cell 1, Q9.drew.cell 2, Q9.drew.cell 3⟩ (fun hS => ?_)
        refine wpAnyX_tq 0 ?_
        refine wpAnyX_tq 1 ?_
        refine wpAnyX_tq 2 ?_
        refine wpAnyX_tq 3 ?_
        refine wpAnyX_tq 5 ?_
        have hown9 := ownS_any tt A8 n8 c8 lr w9.drew O9.sl.dr (by have := O9.sl.len; have := HDN.out.few; omega) (fun x hx => by have := HDN.out.small x hx; exact ⟨by have := this.1; omega, by have := this.2.1; omega, by have := this.2.2; omega⟩)
        have HOWN9 := hide hown9
        clear hown9
        refine wpAnyX_oq 4 fun K hK => ?_
        go_wp2_with fail
        ((with_reducible refine HOWN9.out.mono ?_); rintro e wA ⟨A9, n9, c9, rfl, OA, hbA⟩)
        go_wp2_with fail
        have hbA9 : Below w9.heap.size w9 wA := Below.trans (Below.refl _ w9).drew hbA
        have QA := Q9.below' hbA9; have KA := K9.below' hbA9; have UA := U9.below' hbA9; have PA := P9.below' hbA9; have RA := R9.below' hbA9
        have LA := L9.below hbA9; have TA := T9.bl hbA9; have qA := bstep q9 hbA9
        have OA2 := OA.mono (B' := w.heap.size) q9.drew.size
        refine hK.out _ _ (Or.inr ⟨UA.cell 0, KA.cell 0, KA.cell 1, QA.cell 0, QA.cell 1, QA.cell 2, QA.cell 3⟩) (fun hS => ?_)
        replace hS := hS.resolve_left (by decide)
        clear hK K HOWN9 Q9 K9 U9 P9 R9 O9 L9 T9 q9 OA hbA hbA9
        have hral := RA.lt
        have hs8' : w.heap.size + 3 < w8.heap.size := by simp at hs6; omega
        have HFIN := hide (apply_done (s := (tt, lr)) (r := ⟨rc, rt, rn, rl⟩) (k := 0) PA RA OA2 LA TA qA (by omega) (by omega) rfl rfl rfl rfl)
        have PB := (PA.set' (i := 0) (u := .int .i64 tt) rfl).set' (i := 1) (u := .slice A9 n9 c9) rfl
        have grB := grown_trans (grown_setRow_cell wA (w.heap.size + 2) 0 (.int .i64 tt)) (grown_setRow_cell _ (w.heap.size + 2) 1 (.slice A9 n9 c9))
        have UB := grown_blk UA grB (by omega); have KB := grown_blk KA grB (by omega); have QB := grown_blk QA grB (by omega); have RB := grown_blk RA grB (by omega)
        clear OA2 LA TA qA
        (try clear cPA fPA); have cPA := PA.cell; have fPA := PA.frozen
        refine wpAnyX_oq 6 fun K hK => ?_
        go_wp2_with fail
        refine hK.out _ _ (Or.inr ⟨UB.cell 0, KB.cell 0, KB.cell 1, QB.cell 0, QB.cell 1, QB.cell 2, QB.cell 3⟩) (fun hS => ?_)
        replace hS := hS.resolve_left (by decide)
        clear hK K cPA fPA
        obtain ⟨XC, grC, -⟩ := whole_reply (.int .i64 rc) (.string rt) (.int .i64 rn) (.slice Y m d) RB
        have UC := grown_blk UB grC (by omega); have KC := grown_blk KB grC (by omega); have QC := grown_blk QB grC (by omega)
        (try clear cRB fRB); have cRB := RB.cell; have fRB := RB.frozen
        refine wpAnyX_oq 7 fun K hK => ?_
        go_wp2_with fail
        refine hK.out _ _ (Or.inr ⟨UC.cell 0, KC.cell 0, KC.cell 1, QC.cell 0, QC.cell 1, QC.cell 2, QC.cell 3⟩) (fun hS => ?_)
        replace hS := hS.resolve_left (by decide)
        clear hK K cRB fRB
        refine wpAnyX_oq 8 fun K hK => ?_
        go_wp2_with fail
        refine hK.out _ _ (Or.inr ⟨UC.cell 0, KC.cell 0, KC.cell 1, QC.cell 0, QC.cell 1, QC.cell 2, QC.cell 3⟩) (fun hS => ?_)
        clear hK K hS
        refine wpAnyX_done (by kernel_rfl) ?_ _
        go_wp2_with fail
        obtain ⟨P, X9, Y9⟩ := HFIN.out
        have cX9 := X9.cell; have cY9 := Y9.cell
        refine bodyPost_ret (v := .tuple #[.agg #[.int .i64 tt, .slice A9 n9 c9], .agg #[.int .i64 rc, .string rt, .int .i64 rn, .slice Y m d], .int .i64 0]) ?_ rfl P
        simp [results, Try.results21, go_sem, cX9, cY9]
      · have hr := HR2.out
        rw [if_pos (by simpa using hcz)] at hr
        subst hr
        have hcz' : (cc == 0) = false := by rw [beq_eq_false_iff_ne]; exact hcz
        have hPX := apply_done (s := (0, [])) (r := zeroRe) (k := cc) (a0 := 0) (A := none) (n := 0) (c := 0) (k0 := 0) (t0 := { data := #[] }) (m0 := 0) (Y := none) (m := 0) (d := 0) P0 R0 ⟨[], Own.nil, trivial⟩ (Sl.nil_ _ _) Tp.none_ q (by omega) (by omega) rfl rfl rfl rfl
        have HPX := hide hPX
        clear hPX
        (try clear cP0 fP0); have cP0 := P0.cell; have fP0 := P0.frozen; (try clear cR0 fR0); have cR0 := R0.cell; have fR0 := R0.frozen
        go_wp2_with fail
        obtain ⟨P, X9, Y9⟩ := HPX.out
        have cX9 := X9.cell; have cY9 := Y9.cell
        refine bodyPost_ret (v := .tuple #[.agg #[.int .i64 0, .slice none 0 0], .agg #[.int .i64 0, .string { data := #[] }, .int .i64 0, .slice none 0 0], .int .i64 cc]) ?_ rfl P
        simp [results, Try.results21, go_sem, cX9, cY9]
  · have hr := HR.out
    rw [if_pos (by simpa using hcs)] at hr
    subst hr
    have hcs' : (cs == 0) = false := by rw [beq_eq_false_iff_ne]; exact hcs
    have hPX := apply_done (s := (0, [])) (r := zeroRe) (k := cs) (a0 := 0) (A := none) (n := 0) (c := 0) (k0 := 0) (t0 := { data := #[] }) (m0 := 0) (Y := none) (m := 0) (d := 0) P0 R0 ⟨[], Own.nil, trivial⟩ (Sl.nil_ _ _) Tp.none_ q (by omega) (by omega) rfl rfl rfl rfl
    have HPX := hide hPX
    clear hPX
    (try clear cP0 fP0); have cP0 := P0.cell; have fP0 := P0.frozen; (try clear cR0 fR0); have cR0 := R0.cell; have fR0 := R0.frozen
    go_wp2_with fail
    obtain ⟨P, X9, Y9⟩ := HPX.out
    have cX9 := X9.cell; have cY9 := Y9.cell
    refine bodyPost_ret (v := .tuple #[.agg #[.int .i64 0, .slice none 0 0], .agg #[.int .i64 0, .string { data := #[] }, .int .i64 0, .slice none 0 0], .int .i64 cs]) ?_ rfl P
    simp [results, Try.results21, go_sem, cX9, cY9]
end Go.Proofs.Ytmkheplfdajadaa
/- What the laws of the store want. -/
namespace Go.Proofs.Ytmkheplfdajadaa
set_option linter.all false
open Go.RowKit
/-- A slice of entries that stays where others write. -/
structure St (w : World) (A : Option Addr) (n c : Nat) (l : List En) : Prop where
  sl : StSl w A n c l
  tp : Tp w A 105
section
variable {w w' : World} {A : Option Addr} {n c g : Nat} {l : List En} {t : TypeId} {cs : Array Value}
theorem St.nil (w : World) : St w none 0 0 [] := ⟨StSl.nil w, Tp.none_⟩
theorem St.bl (h : St w A n c l) (hb : Below w.heap.size w w') : St w' A n c l := ⟨h.sl.bl hb, h.tp.bl hb⟩
theorem St.al (h : St w A n c l) (o : Obj) : St (w.alloc o) A n c l := h.bl ((Below.refl _ w).alloc (Nat.le_refl _) o)
theorem St.dr (h : St w A n c l) : St w.drew A n c l := h.bl (Below.refl _ w).drew
theorem St.of {B : Nat} (h : StOwn w B A n c l) : St w A n c l := ⟨h.sl, by obtain ⟨rows, h1, _⟩ := h; exact own_tp h1⟩
theorem St.grown (h : St w A n c l) (R : Blk w g t cs) (hg : w.grownBy w' (some g)) (h0 : 105 ≠ t := by decide) (h1 : t ≠ 138 := by decide) (h2 : t ≠ 9 := by decide) (h3 : t ≠ 140 := by decide) : St w' A n c l := by
  refine ⟨?_, grown_tp h.tp R hg h0⟩
  obtain ⟨rows, k1, k2⟩ := h.sl
  exact ⟨rows, k1.far hg (h.tp.ne R h0), k2.fr (Fr.grown R hg h1 h2 h3)⟩
end
/-- A store's block is written whole. -/
theorem whole_store {w2 : World} {b : Nat} {x0 x1 : Value} (u0 u1 : Value) (R : Blk w2 b 43 #[x0, x1]) :
    Blk ((w2.setCell ⟨b, 0, none⟩ (u0)).setCell ⟨b, 1, none⟩ (u1)) b 43 #[u0, u1] ∧ w2.grownBy ((w2.setCell ⟨b, 0, none⟩ (u0)).setCell ⟨b, 1, none⟩ (u1)) (some b) ∧ ((w2.setCell ⟨b, 0, none⟩ (u0)).setCell ⟨b, 1, none⟩ (u1)).heap.size = w2.heap.size := by
  have R0 := R.set' (i := 0) (u := u0) rfl
  have R1 := R0.set' (i := 1) (u := u1) rfl
  exact ⟨R1, (grown_trans (grown_setRow_cell w2 b 0 u0) (grown_setRow_cell _ b 1 u1)), by simp⟩
def ApplyLeft (R : (Int × List En) × Re × Int) (w : World) (e : Ending) (w' : World) : Prop :=
  ∃ A n c Y m d, e = .returned (.tuple #[.agg #[.int .i64 R.1.1, .slice A n c], .agg #[.int .i64 R.2.1.code, .string R.2.1.text, .int .i64 R.2.1.n, .slice Y m d], .int .i64 R.2.2]) ∧ St w' A n c R.1.2 ∧ Sl w' 1 Y m d (strRows R.2.1.list) ∧ Tp w' Y 9 ∧ Below w.heap.size w w'
theorem Apply_may {now : Int} {l : List En} (hs : StOk now l) (time : Int) (cm : Cmd) (R : (Int × List En) × Re × Int) (hR : applyS now l time cm = R) (t0 : 0 ≤ time) (t1 : time ≤ 2147483648) (A : Option Addr) (n c : Nat) (w : World) (h : St w A n c l) :
    Calls Try.prog 21 #[.agg #[.int .i64 now, .slice A n c], .int .i64 time, .agg #[.int .i64 cm.kind, .string cm.key, .string cm.field, .string cm.text, .int .i64 cm.n]] w (ApplyLeft R w) := by
  subst hR
  refine (Apply_any now A n c l time cm w h.sl (by have := h.sl.len; have := hs.few; omega) (fun x hx => by obtain ⟨a, b, d⟩ := hs.small x hx; exact ⟨by omega, by omega, by omega⟩) (by omega) (by omega)).mono ?_
  rintro e w' ⟨A, n, c, Y, m, d, h1, h2, h3⟩
  exact ⟨A, n, c, Y, m, d, h1, St.of h2, h3⟩
theorem apply_ok {now time : Int} {l : List En} {c : Cmd} (hs : StOk now l) (ht : now ≤ time) (h1 : time ≤ 1073741824) (hc : ccOf c = 0) : applyS now l time c = ((time, (doS time (alive time l) c).1), (doS time (alive time l) c).2, 0) := by
  have h0 := hs.now0
  have hm : max now time = time := by omega
  unfold applyS
  rw [if_neg (by rw [ok_store hs]; simp), if_neg (by omega), if_neg (by omega), hm]
theorem alive_self {now : Int} {l : List En} (hs : StOk now l) : alive now l = l := by
  unfold alive
  rw [List.filter_eq_self]
  intro x hx
  have := hs.till x hx
  have hn : ¬ gone now x = true := by rw [gone_iff]; omega
  simpa using hn
/-- A command for a key is one for another. -/
theorem cc_at {k : Int} {key f t : ByteArray} {n : Int} (h : ccOf ⟨k, { data := #[107] }, f, t, n⟩ = 0) (hk : k ≠ 22) (h1 : 1 ≤ key.size) (h2 : key.size ≤ 12) : ccOf ⟨k, key, f, t, n⟩ = 0 := by
  have hkey : cmdKey k = true := by unfold cmdKey; rw [Bool.not_eq_true', beq_eq_false_iff_ne]; exact hk
  have hb : ∀ key', bare k key' f t n = bare k { data := #[107] } f t n := fun key' => by unfold bare; rw [hkey]; simp
  have e1 : fieldOk key = true := fieldOk_iff.2 ⟨h1, h2⟩
  have e2 : fieldOk { data := #[107] } = true := fieldOk_iff.2 ⟨by decide, by decide⟩
  unfold ccOf checkCommand at h ⊢
  simp only at h ⊢
  rw [hb key, e1]
  rw [e2] at h
  exact h
theorem cc_keys : ccOf ⟨22, { data := #[] }, { data := #[] }, { data := #[] }, 0⟩ = 0 := by
  have hb : bare 22 { data := #[] } { data := #[] } { data := #[] } 0 = true := by
    have e : emp = ({ data := #[] } : ByteArray) := rfl
    unfold bare
    rw [← e, emp_list]; rfl
  unfold ccOf checkCommand
  simp only
  rw [if_neg (by omega), if_neg (by rw [hb]; simp), if_neg, if_neg (by rw [countOk_iff.2 ⟨by omega, by omega⟩]; simp)]
  rintro (⟨h, _⟩ | ⟨h, _⟩ | h)
  · exact absurd h (by decide)
  · exact absurd h (by decide)
  · rw [textOk_iff.2 (by decide)] at h; cases h
section
variable {k : ByteArray} {v : Va} {t now : Int} {c : Cmd}
theorem one_at : keyAt k [⟨k, v, t⟩] = 0 := by unfold keyAt; rw [lowB_cons, cmpB_self]; simp
theorem one_has : keyHas k [⟨k, v, t⟩] = true := by unfold keyHas; rw [one_at]; simp [foundAt, cmpB_self]
theorem none_at : keyAt k [] = 0 := rfl
theorem none_has : keyHas k [] = false := rfl
theorem one_ok (hk : 1 ≤ k.size ∧ k.size ≤ 12) (hg : Good v) (h0 : 0 ≤ now) (h1 : now ≤ 1073741824) (ht : t = 0 ∨ (now < t ∧ t ≤ 1073741824)) : StOk now [⟨k, v, t⟩] := by
  refine ⟨h0, h1, by simp, ?_, ?_, ?_, by simp⟩ <;> (intro x hx; rw [List.mem_singleton] at hx; subst hx; assumption)
theorem nil_ok (h0 : 0 ≤ now) (h1 : now ≤ 1073741824) : StOk now [] := ⟨h0, h1, by simp, by simp, by simp, by simp, by simp⟩
theorem do_expire (hk : c.key = k) (h20 : c.kind = 20) (h1 : 1 ≤ c.n) (h2 : c.n ≤ 1073741824 - now) : doS now [⟨k, v, t⟩] c = ([⟨k, v, now + c.n⟩], toldR 0) := by
  unfold doS
  rw [if_neg (by omega), if_neg (by omega), if_pos (by omega), hk, one_at, one_has]
  unfold timedS
  simp only [List.getElem?_cons_zero]
  rw [if_neg (by simp), if_neg (by omega), if_neg (by omega)]
  rfl
theorem do_life (hk : c.key = k) (h21 : c.kind = 21) : doS now [⟨k, v, t⟩] c = ([⟨k, v, t⟩], toldR (max (t - now) 0)) := by
  unfold doS
  rw [if_neg (by omega), if_neg (by omega), if_pos (by omega), hk, one_at, one_has]
  unfold timedS
  simp only [List.getElem?_cons_zero]
  rw [if_neg (by simp), if_pos h21]
theorem do_keys {l : List En} (h : c.kind = 22) : doS now l c = (l, ⟨0, emp, 0, l.map En.key⟩) := by
  unfold doS; rw [if_pos h]
/-- A value is made where there is none. -/
theorem do_first {u : Va} {r : Re} (hk : c.kind ≤ 18) (hd : doneVal zeroVa c = (u, r, 0)) (hu : u.kind ≠ 0) (hr : r.code = 0) : doS now [] c = ([⟨c.key, u, 0⟩], r) := by
  unfold doS
  rw [if_neg (by omega), if_neg (by omega), if_neg (by omega), none_at, none_has]
  have ho : oldOf [] 0 false = zeroVa := rfl
  rw [ho, hd]
  simp only
  rw [if_neg (by omega), if_neg (by simp), if_neg (by simp), if_pos hu, setS_new (by simp)]
  rfl
/-- The value of the one key is done to. -/
theorem do_one {u : Va} {r : Re} (hkey : c.key = k) (hk : c.kind ≤ 18) (hd : doneVal v c = (u, r, 0)) (hu : u.kind ≠ 0) (hr : r.code = 0) : doS now [⟨k, v, t⟩] c = ([⟨k, u, if c.kind = 1 then 0 else t⟩], r) := by
  unfold doS
  rw [if_neg (by omega), if_neg (by omega), if_neg (by omega), hkey, one_at, one_has]
  have ho : oldOf [⟨k, v, t⟩] 0 true = v := rfl
  rw [ho, hd]
  simp only
  rw [if_neg (by omega), if_neg (by simp [hu]), if_neg (by simp), if_pos hu, setS_has (by simp)]
  rfl
theorem alive_none : alive now [] = [] := rfl
theorem alive_stays {x : En} (h : ¬ (x.till ≠ 0 ∧ x.till ≤ now)) : alive now [x] = [x] := by
  have : ¬ gone now x = true := by rw [gone_iff]; exact h
  unfold alive; simp [this]
theorem alive_goes {x : En} (h : x.till ≠ 0 ∧ x.till ≤ now) : alive now [x] = [] := by
  have : gone now x = true := by rw [gone_iff]; exact h
  unfold alive; simp [this]
end
end Go.Proofs.Ytmkheplfdajadaa
