/- Entries: the closures of store.Apply and of find; slices.IndexFunc, BinarySearchFunc at entries. -/
import Derived.Test.YtpdadlofgfdlpaaEnt
import Derived.Test.YtpdadlofgfdlpaaCmp
import Derived.Test.YtpdadlofgfdlpaaBin
import Derived.BigQuiet
namespace Go.Proofs.Ytpdadlofgfdlpaa
set_option linter.all false
open Go.RowKit
/-- Has it run out? -/
def gone (now : Int) (x : En) : Bool := x.till != 0 && decide (x.till ≤ now)
set_option maxHeartbeats 1000000 in
theorem gone_ (x : En) (s1 s2 s3 : Value) (kb g : Nat) (now : Int) (w : World) (hkl : kb < w.heap.size) (hk : w.cell? ⟨kb, 0, none⟩ = some (.pointer (some ⟨g, 0, none⟩))) (hgl : g < w.heap.size) (hg : w.cell? ⟨g, 0, none⟩ = some (.int .i64 now)) :
    Calls Try.prog 58 #[.agg (x.cells s1 s2 s3).toArray, .pointer (some ⟨kb, 0, none⟩)] w fun e w' => e = .returned (.bool (gone now x)) ∧ Below w.heap.size w w' := by
  obtain ⟨key, ⟨vk, vt, vc, ps, is_, ss⟩, till⟩ := x
  simp only [En.cells]
  have hgl1 : g < w.heap.size + 1 := by omega
  by_cases h0 : till = 0
  · subst h0
    go_enter Try.func58, Try.ntmps58
    go_wp2_with fail
    go_quiet (fail)
    go_wp2_with fail
    go_ret
    exact ⟨rfl, (by repeat (first | (with_reducible exact Below.refl _ _) | (with_reducible assumption) | (with_reducible refine Below.drew ?_) | (with_reducible refine bdrewN ?_ _) | (with_reducible refine balloc ?_ _) | ((with_reducible refine bset ?_ ?_ _); rotate_left; (focus first | exact Nat.le_refl _ | (simp; done) | (simp; omega) | omega)) | (with_reducible refine bstep ?_ (by with_reducible assumption)) | (with_reducible refine Below.trans ?_ (by with_reducible assumption))))⟩
  · have hne : (till == 0) = false := by rw [beq_eq_false_iff_ne]; exact h0
    by_cases h1 : till ≤ now
    · have hr : gone now ⟨key, ⟨vk, vt, vc, ps, is_, ss⟩, till⟩ = true := by simp [gone, h0, h1]
      rw [hr]
      clear hr
      have hd : decide (till ≤ now) = true := by simp [h1]
      go_enter Try.func58, Try.ntmps58
      go_wp2_with fail
      go_quiet (fail)
      go_wp2_with fail
      go_ret
      exact ⟨by simp [h0], (by repeat (first | (with_reducible exact Below.refl _ _) | (with_reducible assumption) | (with_reducible refine Below.drew ?_) | (with_reducible refine bdrewN ?_ _) | (with_reducible refine balloc ?_ _) | ((with_reducible refine bset ?_ ?_ _); rotate_left; (focus first | exact Nat.le_refl _ | (simp; done) | (simp; omega) | omega)) | (with_reducible refine bstep ?_ (by with_reducible assumption)) | (with_reducible refine Below.trans ?_ (by with_reducible assumption))))⟩
    · have hr : gone now ⟨key, ⟨vk, vt, vc, ps, is_, ss⟩, till⟩ = false := by simp [gone, h0, h1]
      rw [hr]
      clear hr
      have hd : decide (till ≤ now) = false := by simp; omega
      go_enter Try.func58, Try.ntmps58
      go_wp2_with fail
      go_quiet (fail)
      go_wp2_with fail
      go_ret
      exact ⟨by simp, (by repeat (first | (with_reducible exact Below.refl _ _) | (with_reducible assumption) | (with_reducible refine Below.drew ?_) | (with_reducible refine bdrewN ?_ _) | (with_reducible refine balloc ?_ _) | ((with_reducible refine bset ?_ ?_ _); rotate_left; (focus first | exact Nat.le_refl _ | (simp; done) | (simp; omega) | omega)) | (with_reducible refine bstep ?_ (by with_reducible assumption)) | (with_reducible refine Below.trans ?_ (by with_reducible assumption))))⟩
theorem FindEnt (f : FuncId) (hf : ∀ args w, (callFunc f args).run Try.prog w = .ok (.enter f args) w) (p : En → Bool) (w0 : World) (g : Nat)
    (hp : ∀ (x : En) (s1 s2 s3 : Value) (w : World), Below w0.heap.size w0 w → Calls Try.prog f #[.agg (x.cells s1 s2 s3).toArray, .pointer (some ⟨g, 0, none⟩)] w fun e w' => e = .returned (.bool (p x)) ∧ Below w.heap.size w w')
    (A : Option Addr) (ln c : Nat) (l : List En) (hl : l.length ≤ 1048576) (h : StSl w0 A ln c l) :
    Calls Try.prog 91 #[.slice A ln c, .func (.func f) #[] #[.pointer (some ⟨g, 0, none⟩)]] w0 fun e w' => e = .returned (.int .i64 (idxFn (l.findIdx? p))) ∧ Below w0.heap.size w0 w' := by
  have hln := h.len
  subst hln
  have HP := hide hp
  clear hp
  go_enter Try.func91, Try.ntmps91
  go_wp2
  go_loopw [5, 8] (fun _ i wr => ∃ k : Nat, k ≤ l.length ∧ i = .int .i64 k ∧ Hid (∀ j, j < k → ∀ s, l[j]? = some s → p s = false) ∧ Below w0.heap.size w0 wr) (fun _ i _ => l.length - (intOf i).toNat)
  case atStart => exact ⟨0, by omega, rfl, fun j hj => by omega, (by repeat (first | (with_reducible exact Below.refl _ _) | (with_reducible assumption) | (with_reducible refine Below.drew ?_) | (with_reducible refine bdrewN ?_ _) | (with_reducible refine balloc ?_ _) | ((with_reducible refine bset ?_ ?_ _); rotate_left; (focus first | exact Nat.le_refl _ | (simp; done) | (simp; omega) | omega)) | (with_reducible refine bstep ?_ (by with_reducible assumption)) | (with_reducible refine Below.trans ?_ (by with_reducible assumption))))⟩
  case round =>
    obtain ⟨k, hk, rfl, HQ, hbr⟩ := hrel
    by_cases hlt : k < l.length
    · obtain ⟨b, off, A1, n1, c1, A2, n2, c2, A3, n3, c3, rfl, hb, ⟨i0, i1, i2, i3, i4, i5, i6, i7⟩, -, -⟩ := (h.bl hbr).at_ hlt
      have hps := HP.out l[k] (.slice A1 n1 c1) (.slice A2 n2 c2) (.slice A3 n3 c3)
      simp only [En.cells] at hps
      have HPS := hide hps
      clear hps
      go_wp2_with fail
      by_cases hps : p l[k] = true
      · refine (HPS.out _ hbr).mono ?_
        rintro e w' ⟨rfl, hb2⟩
        go_wp2_with fail
        go_ret
        exact ⟨by rw [idx_hit hlt hps HQ]; rfl, bstep hbr hb2⟩
      · have hps' : p l[k] = false := by simpa using hps
        refine (HPS.out _ hbr).mono ?_
        rintro e w' ⟨rfl, hb2⟩
        go_wp2_with fail
        go_round
        case rel => exact ⟨k + 1, by omega, by go_num, idx_next hlt hps' HQ, bstep hbr hb2⟩
        case measure => simp [intOf]; omega
    · obtain rfl : k = l.length := by omega
      go_wp2_with fail
      go_ret
      exact ⟨by rw [idx_miss HQ]; rfl, hbr⟩
theorem byKey_ (x : En) (s1 s2 s3 : Value) (key : ByteArray) (w : World) :
    Calls Try.prog 115 #[.agg (x.cells s1 s2 s3).toArray, .string key] w fun e w' => e = .returned (.int .i64 (cmpB x.key key)) ∧ Below w.heap.size w w' := by
  simp only [En.cells]
  go_enter Try.func115, Try.ntmps115
  go_wp2_with (go_at_call 80; refine (Compare_str _ _ _).mono ?_; rintro e w' ⟨rfl, rfl⟩)
  go_ret
  exact ⟨rfl, (by repeat (first | (with_reducible exact Below.refl _ _) | (with_reducible assumption) | (with_reducible refine Below.drew ?_) | (with_reducible refine bdrewN ?_ _) | (with_reducible refine balloc ?_ _) | ((with_reducible refine bset ?_ ?_ _); rotate_left; (focus first | exact Nat.le_refl _ | (simp; done) | (simp; omega) | omega)) | (with_reducible refine bstep ?_ (by with_reducible assumption)) | (with_reducible refine Below.trans ?_ (by with_reducible assumption))))⟩
def keyAt (key : ByteArray) (l : List En) : Nat := lowB (fun x => decide (cmpB x.key key < 0)) l
def keyHas (key : ByteArray) (l : List En) : Bool := foundAt l (keyAt key l) fun y => cmpB y.key key == 0
/-- The keys rise. -/
def Rk (a b : En) : Prop := cmpB a.key b.key < 0
theorem key_h1 {key : ByteArray} {l : List En} : ∀ t (ht : t < l.length), t < keyAt key l → cmpB l[t].key key < 0 := low_h1 (C := fun y : En => cmpB y.key key)
theorem key_h2 {key : ByteArray} {l : List En} (h : l.Pairwise Rk) : ∀ t (ht : t < l.length), keyAt key l ≤ t → 0 ≤ cmpB l[t].key key :=
  low_h2 (C := fun y : En => cmpB y.key key) (fun {i j} hij hj hc => cmpB_trans (List.pairwise_iff_getElem.1 h i j (by omega) hj hij) hc)
set_option maxHeartbeats 4000000 in
theorem Bin_ent (A : Option Addr) (n c : Nat) (l : List En) (key : ByteArray) (w : World) (hl : l.length ≤ 1048576) (h : StSl w A n c l) (hr : l.Pairwise Rk) :
    Calls Try.prog 114 #[.slice A n c, .string key, .func (.func 115) #[] #[]] w fun e w' =>
      e = .returned (.tuple #[.int .i64 (keyAt key l), .bool (keyHas key l)]) ∧ Below w.heap.size w w' := by
  have hln := h.len
  have hkn : keyAt key l ≤ l.length := lowB_le _ _
  have H1 := hide (key_h1 (key := key) (l := l)); have H2 := hide (key_h2 (key := key) hr)
  have hkh0 : keyHas key l = foundAt l (keyAt key l) fun y => cmpB y.key key == 0 := rfl
  generalize keyHas key l = kh at *
  generalize keyAt key l = k at *
  have HKH := hide hkh0
  subst hln
  clear hkh0 hr
  go_enter Try.func114, Try.ntmps114
  go_wp2
  go_loopw [9, 10] (fun s t wr => ∃ lo hi : Nat, s = .int .i64 lo ∧ t = .int .i64 hi ∧ lo ≤ k ∧ k ≤ hi ∧ hi ≤ l.length ∧ Below w.heap.size w wr) (fun s t _ => (intOf t - intOf s).toNat)
  case atStart => exact ⟨0, l.length, rfl, rfl, by omega, by omega, by omega, (by repeat (first | (with_reducible exact Below.refl _ _) | (with_reducible assumption) | (with_reducible refine Below.drew ?_) | (with_reducible refine bdrewN ?_ _) | (with_reducible refine balloc ?_ _) | ((with_reducible refine bset ?_ ?_ _); rotate_left; (focus first | exact Nat.le_refl _ | (simp; done) | (simp; omega) | omega)) | (with_reducible refine bstep ?_ (by with_reducible assumption)) | (with_reducible refine Below.trans ?_ (by with_reducible assumption))))⟩
  case round =>
    obtain ⟨lo, hi, rfl, rfl, hlk, hkh, hhn, hbr⟩ := hrel
    by_cases hlt : lo < hi
    · obtain ⟨m, hm⟩ : ∃ m, m = (lo + hi) / 2 := ⟨_, rfl⟩
      have hmi : ((lo : Int) + (hi : Int)) / 2 = (m : Int) := by omega
      have hml : m < l.length := by omega
      obtain ⟨b, off, A1, n1, c1, A2, n2, c2, A3, n3, c3, rfl, hb, ⟨i0, i1, i2, i3, i4, i5, i6, i7⟩, -, -⟩ := (h.bl hbr).at_ hml
      have hq1 := H1.out m hml
      have hq2 := H2.out m hml
      have HM := hide hm
      clear hm
      generalize l[m] = y at *
      have hby := fun w => byKey_ y (.slice A1 n1 c1) (.slice A2 n2 c2) (.slice A3 n3 c3) key w
      simp only [En.cells] at hby
      have HBY := hide hby
      clear hby
      have hz1 : (0 : Int) ≤ m := by omega
      have hz2 : (m : Int) < l.length := by omega
      go_wp2_with fail
      refine (HBY.out _).mono ?_
      rintro e w2 ⟨rfl, hb2⟩
      by_cases hc : cmpB y.key key < 0
      · have hmk : m < k := by
          rcases Nat.lt_or_ge m k with h' | h'
          · exact h'
          · have := hq2 h'; omega
        go_wp2_with fail
        go_round
        case rel => exact ⟨m + 1, hi, by go_num, rfl, by omega, by omega, by omega, (by repeat (first | (with_reducible exact Below.refl _ _) | (with_reducible assumption) | (with_reducible refine Below.drew ?_) | (with_reducible refine bdrewN ?_ _) | (with_reducible refine balloc ?_ _) | ((with_reducible refine bset ?_ ?_ _); rotate_left; (focus first | exact Nat.le_refl _ | (simp; done) | (simp; omega) | omega)) | (with_reducible refine bstep ?_ (by with_reducible assumption)) | (with_reducible refine Below.trans ?_ (by with_reducible assumption))))⟩
        case measure => have := HM.out; simp [intOf]; omega
      · have hmk : k ≤ m := by
          rcases Nat.lt_or_ge m k with h' | h'
          · have := hq1 h'; omega
          · exact h'
        go_wp2_with fail
        go_round
        case rel => exact ⟨lo, m, rfl, rfl, by omega, by omega, by omega, (by repeat (first | (with_reducible exact Below.refl _ _) | (with_reducible assumption) | (with_reducible refine Below.drew ?_) | (with_reducible refine bdrewN ?_ _) | (with_reducible refine balloc ?_ _) | ((with_reducible refine bset ?_ ?_ _); rotate_left; (focus first | exact Nat.le_refl _ | (simp; done) | (simp; omega) | omega)) | (with_reducible refine bstep ?_ (by with_reducible assumption)) | (with_reducible refine Below.trans ?_ (by with_reducible assumption))))⟩
        case measure => have := HM.out; simp [intOf]; omega
    · obtain rfl : lo = k := by omega
      obtain rfl : hi = lo := by omega
      by_cases hkl : hi < l.length
      · have HF := hide (HKH.out.trans (foundAt_lt (p := fun z => cmpB z.key key == 0) hkl))
        obtain ⟨b, off, A1, n1, c1, A2, n2, c2, A3, n3, c3, rfl, hb, ⟨i0, i1, i2, i3, i4, i5, i6, i7⟩, -, -⟩ := (h.bl hbr).at_ hkl
        clear hhn hkn hkh hlk H1 H2 HKH
        generalize l[hi] = y at *
        have hby := fun w => byKey_ y (.slice A1 n1 c1) (.slice A2 n2 c2) (.slice A3 n3 c3) key w
        simp only [En.cells] at hby
        have HBY := hide hby
        clear hby
        have hz1 : (0 : Int) ≤ hi := by omega
        have hz2 : (hi : Int) < l.length := by omega
        go_wp2_with fail
        refine (HBY.out _).mono ?_
        rintro e w2 ⟨rfl, hb2⟩
        go_wp2_with fail
        go_ret2
        exact ⟨by rw [HF.out]; rfl, (by repeat (first | (with_reducible exact Below.refl _ _) | (with_reducible assumption) | (with_reducible refine Below.drew ?_) | (with_reducible refine bdrewN ?_ _) | (with_reducible refine balloc ?_ _) | ((with_reducible refine bset ?_ ?_ _); rotate_left; (focus first | exact Nat.le_refl _ | (simp; done) | (simp; omega) | omega)) | (with_reducible refine bstep ?_ (by with_reducible assumption)) | (with_reducible refine Below.trans ?_ (by with_reducible assumption))))⟩
      · have HF := hide (HKH.out.trans (foundAt_ge (p := fun z => cmpB z.key key == 0) (show l.length ≤ hi by omega)))
        have hd : decide ((hi : Int) < (l.length : Int)) = false := by simp; omega
        go_wp2_with fail
        go_ret2
        exact ⟨by rw [HF.out]; rfl, (by repeat (first | (with_reducible exact Below.refl _ _) | (with_reducible assumption) | (with_reducible refine Below.drew ?_) | (with_reducible refine bdrewN ?_ _) | (with_reducible refine balloc ?_ _) | ((with_reducible refine bset ?_ ?_ _); rotate_left; (focus first | exact Nat.le_refl _ | (simp; done) | (simp; omega) | omega)) | (with_reducible refine bstep ?_ (by with_reducible assumption)) | (with_reducible refine Below.trans ?_ (by with_reducible assumption))))⟩
end Go.Proofs.Ytpdadlofgfdlpaa
