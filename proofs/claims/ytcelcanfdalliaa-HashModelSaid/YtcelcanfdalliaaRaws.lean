/- Slices of Raw: opened, read; rostrumkeep.maker. -/
import Derived.Test.YtcelcanfdalliaaArgs
import Derived.Test.YtcelcanfdalliaaCommand
import Derived.Test.YtcelcanfdalliaaTrack
namespace Go.Proofs.Ytcelcanfdalliaa
set_option linter.all false
open Go.ChangeShapes Go.WideShapes Go.ChangeAt Go.RowKit
def rawRows (l : List RawD) : List (List Value) := l.map RawD.cells
structure RawAt (w : World) (b o : Nat) (r : RawD) : Prop where
  c0 : w.cell? ⟨b, o, none⟩ = some (.int .i64 r.kind)
  c1 : w.cell? ⟨b, o + 1, none⟩ = some (.int .i64 r.key)
  c2 : w.cell? ⟨b, o + 2, none⟩ = some (.int .i64 r.field)
  c3 : w.cell? ⟨b, o + 3, none⟩ = some (.int .i64 r.n)
  c4 : w.cell? ⟨b, o + 4, none⟩ = some (.string r.text)
theorem Sl.raw {w : World} {A : Option Addr} {n c : Nat} {l : List RawD} (h : Sl w 5 A n c (rawRows l)) {k : Nat} (hk : k < l.length) :
    ∃ b off, A = some ⟨b, off, none⟩ ∧ b < w.heap.size ∧ RawAt w b (off + k * 5) l[k] := by
  obtain ⟨b, off, e, hb, hc⟩ := h.seg.at_ (i := k) (by simpa [rawRows] using hk)
  have hc' : ∀ j u, l[k].cells[j]? = some u → w.cell? ⟨b, off + k * 5 + j, none⟩ = some u := by
    intro j u hu
    rw [Nat.add_assoc]
    exact hc j u (by simpa [rawRows] using hu)
  exact ⟨b, off, e, hb, hc' 0 _ rfl, hc' 1 _ rfl, hc' 2 _ rfl, hc' 3 _ rfl, hc' 4 _ rfl⟩
theorem RawAt.bl {w w' : World} {b o : Nat} {r : RawD} (h : RawAt w b o r) (hb : b < w.heap.size) (q : Below w.heap.size w w') : RawAt w' b o r := by
  obtain ⟨h0, h1, h2, h3, h4⟩ := h
  exact ⟨(q.cell (p := ⟨b, o, none⟩) hb).trans h0, (q.cell (p := ⟨b, o + 1, none⟩) hb).trans h1, (q.cell (p := ⟨b, o + 2, none⟩) hb).trans h2, (q.cell (p := ⟨b, o + 3, none⟩) hb).trans h3, (q.cell (p := ⟨b, o + 4, none⟩) hb).trans h4⟩
theorem raw_len {w : World} {A : Option Addr} {n c : Nat} {l : List RawD} (h : Sl w 5 A n c (rawRows l)) : l.length = n := by have := h.len; simpa [rawRows] using this
theorem raw_info : (Try.prog.info? 24).map (fun i => (i.zero, i.size, i.bytes)) = some (some (.agg #[.int .i64 0, .int .i64 0, .int .i64 0, .int .i64 0, .string ByteArray.empty]), 5, 48) := by kernel_rfl
theorem raw_size : (Try.prog.info? 24).map (·.size) = some 5 := by kernel_rfl
theorem raw_one : ∀ (l : List RawD), ∀ r ∈ rawRows l, ∀ u ∈ r, u.oneCell' = true := by
  intro l r hr u hu
  obtain ⟨x, _, rfl⟩ := List.mem_map.1 hr
  simp only [RawD.cells, List.mem_cons, List.not_mem_nil, or_false] at hu
  rcases hu with rfl | rfl | rfl | rfl | rfl <;> rfl
theorem rawRows_take (l : List RawD) (k : Nat) : (rawRows l).take k = rawRows (l.take k) := by simp [rawRows]
theorem rawRows_length (l : List RawD) : (rawRows l).length = l.length := by simp [rawRows]
section
variable {H : Type} {enc : TypeId × Value → H} {w : World} {base : Nat} {spare : Nat → Bool} {held : Bool} {v : Value} {d : DataW H} {p : List MemPlace}
set_option maxRecDepth 100000 in
theorem open_raws {r : Reach} {b0 : Nat} (hv : Value.okWide Try.prog w r b0 22 v) (h : DataW.Trod enc Try.prog w base spare held 22 v d p) :
    ∃ A n c, ∃ l : List RawD, v = .slice A n c ∧ (∀ x ∈ l, x.ok) ∧ Sl w 5 A n c (rawRows l) := by
  obtain ⟨a0, len, cap, rfl⟩ := okWide_slice Try.underlying22 hv
  obtain ⟨fuel, hf⟩ := h
  obtain ⟨A, n, c, rows, he, h3, h4⟩ := seg_of_slice 2 Try.underlying22 raw_atoms (by kernel_rfl) (by decide) hf
  obtain ⟨l, rfl, hl⟩ := rows_map fits_raw rows h3
  exact ⟨A, n, c, l, he, hl, h4⟩
end
def makeK (p : Int) : Int := if p = 0 then 1 else if p = 1 then 3 else if p = 2 then 4 else if p = 3 then 7 else if p = 4 then 11 else 14
def makerC (kind : Int) (r : RawD) : Cmd := cmdOf (makeK (picked kind 6) - 1) r.key r.field r.n r.text
theorem picked_self {k m : Int} (h0 : 0 ≤ k) (h1 : k < m) : picked k m = k := by
  unfold picked
  rw [if_neg (by omega)]
  exact Int.emod_eq_of_lt h0 h1
theorem makeK_in (p : Int) : 1 ≤ makeK p ∧ makeK p ≤ 14 := by unfold makeK; (repeat' split) <;> omega
theorem makerC_kind (kind : Int) (r : RawD) : (makerC kind r).kind = makeK (picked kind 6) := by
  have := makeK_in (picked kind 6)
  show 1 + picked (makeK (picked kind 6) - 1) 22 = _
  rw [picked_self (by omega) (by omega)]; omega
set_option maxHeartbeats 4000000 in
theorem maker_any (kind : Int) (r : RawD) (w : World) (hk : I64 kind) (hr : r.ok) :
    Calls Try.prog 32 #[.int .i64 kind, .agg #[.int .i64 r.kind, .int .i64 r.key, .int .i64 r.field, .int .i64 r.n, .string r.text]] w fun e w' => e = .returned (cmdV (makerC kind r)) ∧ Below w.heap.size w w' := by
  obtain ⟨⟨k1, k2⟩, ⟨y1, y2⟩, ⟨f1, f2⟩, ⟨n1, n2⟩, hx⟩ := hr
  obtain ⟨rk, key, field, n, text⟩ := r
  simp only at k1 k2 y1 y2 f1 f2 n1 n2 hx
  obtain ⟨g1, g2⟩ := hk
  have r1 := picked_lo kind 6 (by omega)
  have r2 := picked_hi kind 6 (by omega)
  have hR := fun w => picked_any kind 6 w g1 g2 (by omega) (by omega)
  unfold makerC
  generalize picked kind 6 = p at *
  have HR := hide hR; clear hR
  have hp : p = 0 ∨ p = 1 ∨ p = 2 ∨ p = 3 ∨ p = 4 ∨ p = 5 := by omega
  clear r1 r2
  rcases hp with rfl | rfl | rfl | rfl | rfl | rfl
  · have hC := fun w => Command_any 0 key field n text w (by omega) (by omega) y1 y2 f1 f2 n1 n2 hx 0 (picked_self (by omega) (by omega)) (by omega) (by omega)
    have hE : ∀ q, makeK q - 1 = 0 → cmdOf (makeK q - 1) key field n text = cmdOf 0 key field n text := fun q h => by rw [h]
    simp only
    rw [hE _ (by decide)]
    clear hE
    generalize cmdOf 0 key field n text = cm at *
    obtain ⟨ck, cy, cf, ct, cn⟩ := cm
    simp only [cmdV] at hC ⊢
    have HC := hide hC; clear hC
    go_enter Try.func32, Try.ntmps32
    go_wp2_with (first | (go_at_call 28; refine (HR.out _).mono ?_; rintro e w' ⟨rfl, rfl⟩) | (go_at_call 23; refine (HC.out _).mono ?_; rintro e w1 ⟨rfl, hb1⟩; obtain ⟨hc1, hf1⟩ := bcell hb1; have hz := hb1.size; simp at hz; have hz1 : w.heap.size + 1 < w1.heap.size := (by omega)))
    refine bodyPost_ret (v := .agg #[.int .i64 ck, .string cy, .string cf, .string ct, .int .i64 cn]) ?_ rfl ⟨rfl, (by repeat (first | (with_reducible exact Below.refl _ _) | (with_reducible assumption) | (with_reducible refine Below.drew ?_) | (with_reducible refine bdrewN ?_ _) | (with_reducible refine balloc ?_ _) | ((with_reducible refine bset ?_ ?_ _); rotate_left; (focus first | exact Nat.le_refl _ | (simp; done) | (simp; omega) | omega)) | (with_reducible refine bstep ?_ (by with_reducible assumption)) | (with_reducible refine Below.trans ?_ (by with_reducible assumption))))⟩
    simp [results, Try.results32, go_sem, *]
  · have hC := fun w => Command_any 2 key field n text w (by omega) (by omega) y1 y2 f1 f2 n1 n2 hx 2 (picked_self (by omega) (by omega)) (by omega) (by omega)
    have hE : ∀ q, makeK q - 1 = 2 → cmdOf (makeK q - 1) key field n text = cmdOf 2 key field n text := fun q h => by rw [h]
    simp only
    rw [hE _ (by decide)]
    clear hE
    generalize cmdOf 2 key field n text = cm at *
    obtain ⟨ck, cy, cf, ct, cn⟩ := cm
    simp only [cmdV] at hC ⊢
    have HC := hide hC; clear hC
    go_enter Try.func32, Try.ntmps32
    go_wp2_with (first | (go_at_call 28; refine (HR.out _).mono ?_; rintro e w' ⟨rfl, rfl⟩) | (go_at_call 23; refine (HC.out _).mono ?_; rintro e w1 ⟨rfl, hb1⟩; obtain ⟨hc1, hf1⟩ := bcell hb1; have hz := hb1.size; simp at hz; have hz1 : w.heap.size + 1 < w1.heap.size := (by omega)))
    refine bodyPost_ret (v := .agg #[.int .i64 ck, .string cy, .string cf, .string ct, .int .i64 cn]) ?_ rfl ⟨rfl, (by repeat (first | (with_reducible exact Below.refl _ _) | (with_reducible assumption) | (with_reducible refine Below.drew ?_) | (with_reducible refine bdrewN ?_ _) | (with_reducible refine balloc ?_ _) | ((with_reducible refine bset ?_ ?_ _); rotate_left; (focus first | exact Nat.le_refl _ | (simp; done) | (simp; omega) | omega)) | (with_reducible refine bstep ?_ (by with_reducible assumption)) | (with_reducible refine Below.trans ?_ (by with_reducible assumption))))⟩
    simp [results, Try.results32, go_sem, *]
  · have hC := fun w => Command_any 3 key field n text w (by omega) (by omega) y1 y2 f1 f2 n1 n2 hx 3 (picked_self (by omega) (by omega)) (by omega) (by omega)
    have hE : ∀ q, makeK q - 1 = 3 → cmdOf (makeK q - 1) key field n text = cmdOf 3 key field n text := fun q h => by rw [h]
    simp only
    rw [hE _ (by decide)]
    clear hE
    generalize cmdOf 3 key field n text = cm at *
    obtain ⟨ck, cy, cf, ct, cn⟩ := cm
    simp only [cmdV] at hC ⊢
    have HC := hide hC; clear hC
    go_enter Try.func32, Try.ntmps32
    go_wp2_with (first | (go_at_call 28; refine (HR.out _).mono ?_; rintro e w' ⟨rfl, rfl⟩) | (go_at_call 23; refine (HC.out _).mono ?_; rintro e w1 ⟨rfl, hb1⟩; obtain ⟨hc1, hf1⟩ := bcell hb1; have hz := hb1.size; simp at hz; have hz1 : w.heap.size + 1 < w1.heap.size := (by omega)))
    refine bodyPost_ret (v := .agg #[.int .i64 ck, .string cy, .string cf, .string ct, .int .i64 cn]) ?_ rfl ⟨rfl, (by repeat (first | (with_reducible exact Below.refl _ _) | (with_reducible assumption) | (with_reducible refine Below.drew ?_) | (with_reducible refine bdrewN ?_ _) | (with_reducible refine balloc ?_ _) | ((with_reducible refine bset ?_ ?_ _); rotate_left; (focus first | exact Nat.le_refl _ | (simp; done) | (simp; omega) | omega)) | (with_reducible refine bstep ?_ (by with_reducible assumption)) | (with_reducible refine Below.trans ?_ (by with_reducible assumption))))⟩
    simp [results, Try.results32, go_sem, *]
  · have hC := fun w => Command_any 6 key field n text w (by omega) (by omega) y1 y2 f1 f2 n1 n2 hx 6 (picked_self (by omega) (by omega)) (by omega) (by omega)
    have hE : ∀ q, makeK q - 1 = 6 → cmdOf (makeK q - 1) key field n text = cmdOf 6 key field n text := fun q h => by rw [h]
    simp only
    rw [hE _ (by decide)]
    clear hE
    generalize cmdOf 6 key field n text = cm at *
    obtain ⟨ck, cy, cf, ct, cn⟩ := cm
    simp only [cmdV] at hC ⊢
    have HC := hide hC; clear hC
    go_enter Try.func32, Try.ntmps32
    go_wp2_with (first | (go_at_call 28; refine (HR.out _).mono ?_; rintro e w' ⟨rfl, rfl⟩) | (go_at_call 23; refine (HC.out _).mono ?_; rintro e w1 ⟨rfl, hb1⟩; obtain ⟨hc1, hf1⟩ := bcell hb1; have hz := hb1.size; simp at hz; have hz1 : w.heap.size + 1 < w1.heap.size := (by omega)))
    refine bodyPost_ret (v := .agg #[.int .i64 ck, .string cy, .string cf, .string ct, .int .i64 cn]) ?_ rfl ⟨rfl, (by repeat (first | (with_reducible exact Below.refl _ _) | (with_reducible assumption) | (with_reducible refine Below.drew ?_) | (with_reducible refine bdrewN ?_ _) | (with_reducible refine balloc ?_ _) | ((with_reducible refine bset ?_ ?_ _); rotate_left; (focus first | exact Nat.le_refl _ | (simp; done) | (simp; omega) | omega)) | (with_reducible refine bstep ?_ (by with_reducible assumption)) | (with_reducible refine Below.trans ?_ (by with_reducible assumption))))⟩
    simp [results, Try.results32, go_sem, *]
  · have hC := fun w => Command_any 10 key field n text w (by omega) (by omega) y1 y2 f1 f2 n1 n2 hx 10 (picked_self (by omega) (by omega)) (by omega) (by omega)
    have hE : ∀ q, makeK q - 1 = 10 → cmdOf (makeK q - 1) key field n text = cmdOf 10 key field n text := fun q h => by rw [h]
    simp only
    rw [hE _ (by decide)]
    clear hE
    generalize cmdOf 10 key field n text = cm at *
    obtain ⟨ck, cy, cf, ct, cn⟩ := cm
    simp only [cmdV] at hC ⊢
    have HC := hide hC; clear hC
    go_enter Try.func32, Try.ntmps32
    go_wp2_with (first | (go_at_call 28; refine (HR.out _).mono ?_; rintro e w' ⟨rfl, rfl⟩) | (go_at_call 23; refine (HC.out _).mono ?_; rintro e w1 ⟨rfl, hb1⟩; obtain ⟨hc1, hf1⟩ := bcell hb1; have hz := hb1.size; simp at hz; have hz1 : w.heap.size + 1 < w1.heap.size := (by omega)))
    refine bodyPost_ret (v := .agg #[.int .i64 ck, .string cy, .string cf, .string ct, .int .i64 cn]) ?_ rfl ⟨rfl, (by repeat (first | (with_reducible exact Below.refl _ _) | (with_reducible assumption) | (with_reducible refine Below.drew ?_) | (with_reducible refine bdrewN ?_ _) | (with_reducible refine balloc ?_ _) | ((with_reducible refine bset ?_ ?_ _); rotate_left; (focus first | exact Nat.le_refl _ | (simp; done) | (simp; omega) | omega)) | (with_reducible refine bstep ?_ (by with_reducible assumption)) | (with_reducible refine Below.trans ?_ (by with_reducible assumption))))⟩
    simp [results, Try.results32, go_sem, *]
  · have hC := fun w => Command_any 13 key field n text w (by omega) (by omega) y1 y2 f1 f2 n1 n2 hx 13 (picked_self (by omega) (by omega)) (by omega) (by omega)
    have hE : ∀ q, makeK q - 1 = 13 → cmdOf (makeK q - 1) key field n text = cmdOf 13 key field n text := fun q h => by rw [h]
    simp only
    rw [hE _ (by decide)]
    clear hE
    generalize cmdOf 13 key field n text = cm at *
    obtain ⟨ck, cy, cf, ct, cn⟩ := cm
    simp only [cmdV] at hC ⊢
    have HC := hide hC; clear hC
    go_enter Try.func32, Try.ntmps32
    go_wp2_with (first | (go_at_call 28; refine (HR.out _).mono ?_; rintro e w' ⟨rfl, rfl⟩) | (go_at_call 23; refine (HC.out _).mono ?_; rintro e w1 ⟨rfl, hb1⟩; obtain ⟨hc1, hf1⟩ := bcell hb1; have hz := hb1.size; simp at hz; have hz1 : w.heap.size + 1 < w1.heap.size := (by omega)))
    refine bodyPost_ret (v := .agg #[.int .i64 ck, .string cy, .string cf, .string ct, .int .i64 cn]) ?_ rfl ⟨rfl, (by repeat (first | (with_reducible exact Below.refl _ _) | (with_reducible assumption) | (with_reducible refine Below.drew ?_) | (with_reducible refine bdrewN ?_ _) | (with_reducible refine balloc ?_ _) | ((with_reducible refine bset ?_ ?_ _); rotate_left; (focus first | exact Nat.le_refl _ | (simp; done) | (simp; omega) | omega)) | (with_reducible refine bstep ?_ (by with_reducible assumption)) | (with_reducible refine Below.trans ?_ (by with_reducible assumption))))⟩
    simp [results, Try.results32, go_sem, *]
end Go.Proofs.Ytcelcanfdalliaa
