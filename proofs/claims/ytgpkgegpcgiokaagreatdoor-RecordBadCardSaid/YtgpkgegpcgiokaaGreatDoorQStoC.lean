import Derived.Test.YtgpkgegpcgiokaaGreatDoorQEntD
import Derived.Test.YtgpkgegpcgiokaaGreatDoorQDonP
import Derived.Deep.RegionHeld3
import Derived.Test.YtgpkgegpcgiokaaGreatDoorQHeldX
import Derived.BigQuiet
namespace Go.Proofs.YtgpkgegpcgiokaaGreatDoor
set_option linter.all false
open Go.RowKit
def keyBad (x : En) : Bool := decide (x.key.size < 1) || decide (12 < x.key.size)
def orderBad (l : List En) : Nat → En → Bool
 | 0, _ => false
 | j + 1, x => match l[j]? with | none => false | some y => decide (0 ≤ cmpB y.key x.key)
def tillBad (now : Int) (x : En) : Bool := x.till != 0 && (decide (x.till ≤ now) || decide (1073741824 < x.till))
def entBad (now : Int) (l : List En) (k : Nat) : Bool := match l[k]? with | none => false | some x => keyBad x || checkValue x.val != 0 || orderBad l k x || tillBad now x
def checkStore (now : Int) (l : List En) : Int := if now < 0 ∨ 1073741824 < now ∨ 12 < l.length then 13 else if (List.range l.length).any (entBad now l) = true then 13 else 0
theorem store_bad {now : Int} {l : List En} {k : Nat} (hk : k < l.length) (h : entBad now l k = true) : checkStore now l = 13 := by
 unfold checkStore
 split
 ·rfl
 ·rw [if_pos (List.any_eq_true.2 ⟨k, List.mem_range.2 hk, h⟩)]
theorem store_good {now : Int} {l : List En} (h0 : ¬ (now < 0 ∨ 1073741824 < now ∨ 12 < l.length)) (h : ∀ k < l.length, entBad now l k = false) : checkStore now l = 0 := by
 unfold checkStore
 rw [if_neg h0, if_neg]
 intro hc
 obtain ⟨k, hk, hb⟩ := List.any_eq_true.1 hc
 rw [h k (List.mem_range.1 hk)] at hb
 cases hb
set_option maxHeartbeats 8000000 in
set_option maxRecDepth 100000 in
theorem CheckS_any (now : Int) (A : Option Addr) (n c : Nat) (l : List En) (w : World) (h : StSl w A n c l) (hn : n ≤ 1048576) (hsm : ∀ x ∈ l, small x.val 1048576) :
  Calls Tryz.prog 64 #[.agg #[.int .i64 now, .slice A n c]] w fun e w' => e = .returned (.int .i64 (checkStore now l)) ∧ Below w.heap.size w w' := by
 have hln := h.len
 have T0 := Blk.new w 29 #[.int .i64 now, .slice A n c]
 have hb0 : Below w.heap.size w (w.alloc (.cells #[.int .i64 now, .slice A n c] 29)) := below_by
 by_cases h0 : now < 0 ∨ 1073741824 < now ∨ 12 < l.length
 ·have hc : checkStore now l = 13 := by unfold checkStore; rw [if_pos h0]
  rw [hc, hln] at *
  clear hc
  by_cases h1 : now < 0
  ·go_enter Tryz.func64, Tryz.ntmps64
   go_wp2_with fail
   go_ret
   exact ⟨rfl, below_by⟩
  ·by_cases h2 : 1073741824 < now
   ·go_enter Tryz.func64, Tryz.ntmps64
    go_wp2_with fail
    go_ret
    exact ⟨rfl, below_by⟩
   ·have h3 : (12 : Int) < (n : Int) := by omega
    go_enter Tryz.func64, Tryz.ntmps64
    go_wp2_with fail
    go_ret
    exact ⟨rfl, below_by⟩
 ·have h1 : ¬ now < 0 := by omega
  have h2 : ¬ 1073741824 < now := by omega
  have h3 : ¬ (12 : Int) < (n : Int) := by omega
  have HSM := hide hsm
  have H0 := hide h0
  have HLN := hide hln
  clear hsm h0
  obtain ⟨CS, hCS⟩ : ∃ CS, CS = checkStore now l := ⟨_, rfl⟩
  rw [← hCS]
  have HCS := hide hCS
  clear hCS
  go_enter Tryz.func64, Tryz.ntmps64
  go_wp2_with fail
  go_loopw [22] (fun s22 wr => ∃ k : Nat, k ≤ n ∧ s22 = .int .i64 k ∧ Blk wr w.heap.size 29 #[.int .i64 now, .slice A n c] ∧ Hid (∀ j < k, entBad now l j = false) ∧ Below w.heap.size w wr) (fun s22 _ => n - (intOf s22).toNat)
  case atStart => exact ⟨0, by omega, rfl, T0, fun j hj => by omega, hb0⟩
  case round =>
   obtain ⟨k, hk, rfl, T, HQ, q⟩ := hrel
   clear T0 hb0
   have hqs := q.size
   have htl := T.lt
   by_cases hlt : k < n
   ·have hkl : k < l.length := by omega
    obtain ⟨b, off, A1, n1, c1, A2, n2, c2, A3, n3, c3, rfl, hb, ⟨i0, i1, i2, i3, i4, i5, i6, i7⟩, N, -⟩ := (h.bl q).at_ hkl
    have hsx := HSM.out _ (List.getElem_mem hkl)
    have hbad : entBad now l k = (keyBad l[k] || checkValue l[k].val != 0 || orderBad l k l[k] || tillBad now l[k]) := by unfold entBad; rw [List.getElem?_eq_getElem hkl]
    have hob : ∀ j, k = j + 1 → ∃ yk : ByteArray, wr.cell? ⟨b, off + j * 8, none⟩ = some (.string yk) ∧ orderBad l k l[k] = decide (0 ≤ cmpB yk l[k].key) := by
     intro j hj
     subst hj
     have hjl : j < l.length := by omega
     obtain ⟨b', off', _, _, _, _, _, _, _, _, _, e1, _, ⟨u0, _, _, _, _, _, _, _⟩, _, _⟩ := (h.bl q).at_ hjl
     injection e1 with e1
     injection e1 with e1 e2
     subst e1; subst e2
     refine ⟨_, u0, ?_⟩
     simp only [orderBad, List.getElem?_eq_getElem hjl]
    have hnb : ∀ k' , k' < k + 1 → entBad now l k = false → entBad now l k' = false := fun k' hk' hf => by
     rcases Nat.lt_or_ge k' k with h' | h'
     ·exact HQ.out k' h'
     ·obtain rfl : k' = k := by omega
      exact hf
    have hsb := fun hf => store_bad (now := now) (l := l) (k := k) hkl hf
    generalize l[k] = x at N i0 i1 i2 i3 i7 hsx hbad hob
    obtain ⟨xk, ⟨kind, text, count, ps, is_, ss⟩, xt⟩ := x
    simp only at i0 i1 i2 i3 i7 hob
    have l1 : n1 ≤ 1048576 := by have := N.n1_; have := hsx.1; simp only at *; omega
    have l2 : n2 ≤ 1048576 := by have := N.n2_; have := hsx.2.1; simp only at *; omega
    have l3 : n3 ≤ 1048576 := by have := N.n3_; have := hsx.2.2; simp only at *; omega
    have hck := fun wz (hz : Below wr.heap.size wr wz) => Check_val ⟨kind, text, count, ps, is_, ss⟩ A1 A2 A3 n1 c1 n2 c2 n3 c3 wz (N.bl hz) l1 l2 l3
    simp only at hck hbad
    generalize checkValue ⟨kind, text, count, ps, is_, ss⟩ = cv at hck hbad
    have hkb : keyBad ⟨xk, ⟨kind, text, count, ps, is_, ss⟩, xt⟩ = (decide (xk.size < 1) || decide (12 < xk.size)) := rfl
    have htb : tillBad now ⟨xk, ⟨kind, text, count, ps, is_, ss⟩, xt⟩ = (xt != 0 && (decide (xt ≤ now) || decide (1073741824 < xt))) := rfl
    rw [hkb, htb] at hbad
    obtain ⟨ob, hob1⟩ : ∃ ob, ob = orderBad l k ⟨xk, ⟨kind, text, count, ps, is_, ss⟩, xt⟩ := ⟨_, rfl⟩
    rw [← hob1] at hbad hob
    have HCK := hide hck; have HBAD := hide hbad; have HNB := hide hnb; have HSB := hide hsb; have HOB1 := hide hob1; have HOB := hide hob
    clear hck hbad hnb hsb hob1 hob hkb htb hsx
    have hz1 : (0 : Int) ≤ (k : Int) := by omega
    have hz2 : (k : Int) < (n : Int) := by omega
    have hw0 : IntKind.i64.wrap (k : Int) = (k : Int) := IntWalk.i64_in _ (by omega)
    have bX : Below wr.heap.size wr (wr.alloc (.cells #[.string xk, .int .i64 kind, .string text, .int .i64 count, .slice A1 n1 c1, .slice A2 n2 c2, .slice A3 n3 c3, .int .i64 xt] 144)) := below_by
    have X := Blk.new wr 144 #[.string xk, .int .i64 kind, .string text, .int .i64 count, .slice A1 n1 c1, .slice A2 n2 c2, .slice A3 n3 c3, .int .i64 xt]
    have T1 := T.alloc (.cells #[.string xk, .int .i64 kind, .string text, .int .i64 count, .slice A1 n1 c1, .slice A2 n2 c2, .slice A3 n3 c3, .int .i64 xt] 144)
    (try clear cT fT); have cT := T.cell; have fT := T.frozen
    go_upto_region 6 with fail
    have j0 := bX.cell (p := ⟨b, off + k * 8, none⟩) hb
    obtain ⟨W, hW⟩ : ∃ W, W = (wr.alloc (.cells #[.string xk, .int .i64 kind, .string text, .int .i64 count, .slice A1 n1 c1, .slice A2 n2 c2, .slice A3 n3 c3, .int .i64 xt] 144)) := ⟨_, rfl⟩
    rw [← hW] at bX X T1 ⊢
    clear hW cT fT i0 i1 i2 i3 i4 i5 i6 i7 j0
    have hxl := X.lt
    have htl1 := T1.lt
    have hbW : b < W.heap.size := by have := bX.size; omega
    go_cut [58] (fun s wx => s = .bool (decide (xk.size < 1) || decide (12 < xk.size) || cv != 0 || ob) ∧ Below W.heap.size W wx)
    case first =>
     (try clear cX fX); have cX := X.cell; have fX := X.frozen; (try clear cT1 fT1); have cT1 := T1.cell; have fT1 := T1.frozen
     by_cases hk1 : xk.size < 1
     ·have hk1' : (xk.size : Int) < 1 := by omega
      have hd1 : decide ((xk.size : Int) < 1) = true := by simp; omega
      go_quiet (fail)
      go_wp2_with fail
      go_meet
      exact ⟨by simp [hk1], below_by⟩
     ·have hk1' : ¬ (xk.size : Int) < 1 := by omega
      have hd1 : decide ((xk.size : Int) < 1) = false := by simp; omega
      by_cases hk2 : 12 < xk.size
      ·have hk2' : (12 : Int) < (xk.size : Int) := by omega
       have hd2 : decide ((12 : Int) < (xk.size : Int)) = true := by simp; omega
       go_quiet (fail)
       go_wp2_with fail
       go_meet
       exact ⟨by simp [hk2], below_by⟩
      ·have hk2' : ¬ (12 : Int) < (xk.size : Int) := by omega
       have hd2 : decide ((12 : Int) < (xk.size : Int)) = false := by simp; omega
       by_cases hcv : cv = 0
       ·have hcv' : (cv != 0) = false := by simp [hcv]
        cases k with
        | zero =>
         have hob0 : ob = false := by rw [HOB1.out]; rfl
         subst hob0
         refine wp_region_x (l := []) (S := fun w' => w'.cell? ⟨wr.heap.size, 0, none⟩ = some (.string xk) ∧ w'.cell? ⟨wr.heap.size, 1, none⟩ = some (.int .i64 kind) ∧ w'.cell? ⟨wr.heap.size, 2, none⟩ = some (.string text) ∧ w'.cell? ⟨wr.heap.size, 3, none⟩ = some (.int .i64 count) ∧ w'.cell? ⟨wr.heap.size, 4, none⟩ = some (.slice A1 n1 c1) ∧ w'.cell? ⟨wr.heap.size, 5, none⟩ = some (.slice A2 n2 c2) ∧ w'.cell? ⟨wr.heap.size, 6, none⟩ = some (.slice A3 n3 c3)) (by kernel_rfl) ⟨X.cell 0, X.cell 1, X.cell 2, X.cell 3, X.cell 4, X.cell 5, X.cell 6⟩ (fun hS => ?_)
         refine wpAnyX_tk (i := 0) (v := ?xv0z) rfl (Or.inl ⟨by rfl, ?xh0z⟩) ?xr0z; (case xh0z => (intro w hSw; (try dsimp only at hSw); go_simp; (try with_reducible rfl))); (try simp only [Act.put, List.setIfInBounds_toArray, List.set_cons_zero, List.set_cons_succ, List.getElem_toArray, List.getElem_cons_zero, List.getElem_cons_succ])
         refine wpAnyX_tk (i := 1) (v := ?xv1z) rfl (Or.inl ⟨by rfl, ?xh1z⟩) ?xr1z; (case xh1z => (intro w hSw; (try dsimp only at hSw); go_simp; (try with_reducible rfl))); (try simp only [Act.put, List.setIfInBounds_toArray, List.set_cons_zero, List.set_cons_succ, List.getElem_toArray, List.getElem_cons_zero, List.getElem_cons_succ])
         refine wpAnyX_tk (i := 2) (v := ?xv2z) rfl (Or.inl ⟨by rfl, ?xh2z⟩) ?xr2z; (case xh2z => (intro w hSw; (try dsimp only at hSw); go_simp; (try with_reducible rfl))); (try simp only [Act.put, List.setIfInBounds_toArray, List.set_cons_zero, List.set_cons_succ, List.getElem_toArray, List.getElem_cons_zero, List.getElem_cons_succ])
         refine wpAnyX_tk (i := 3) (v := ?xv3z) rfl (Or.inl ⟨by rfl, ?xh3z⟩) ?xr3z; (case xh3z => (intro w hSw; (try dsimp only at hSw); go_simp; (try with_reducible rfl))); (try simp only [Act.put, List.setIfInBounds_toArray, List.set_cons_zero, List.set_cons_succ, List.getElem_toArray, List.getElem_cons_zero, List.getElem_cons_succ])
         (try simp only [hd1])
         refine wpAnyX_tk (i := 4) (v := ?xv4z) rfl (Or.inl ⟨by rfl, ?xh4z⟩) ?xr4z; (case xh4z => (intro w hSw; (try dsimp only at hSw); go_simp; (try with_reducible rfl))); (try simp only [Act.put, List.setIfInBounds_toArray, List.set_cons_zero, List.set_cons_succ, List.getElem_toArray, List.getElem_cons_zero, List.getElem_cons_succ])
         refine wpAnyX_tk (i := 5) (v := ?xv5z) rfl (Or.inl ⟨by rfl, ?xh5z⟩) ?xr5z; (case xh5z => (intro w hSw; (try dsimp only at hSw); go_simp; (try with_reducible rfl))); (try simp only [Act.put, List.setIfInBounds_toArray, List.set_cons_zero, List.set_cons_succ, List.getElem_toArray, List.getElem_cons_zero, List.getElem_cons_succ])
         refine wpAnyX_tk (i := 6) (v := ?xv6z) rfl (Or.inl ⟨by rfl, ?xh6z⟩) ?xr6z; (case xh6z => (intro w hSw; (try dsimp only at hSw); go_simp; (try with_reducible rfl))); (try simp only [Act.put, List.setIfInBounds_toArray, List.set_cons_zero, List.set_cons_succ, List.getElem_toArray, List.getElem_cons_zero, List.getElem_cons_succ])
         refine wpAnyX_tk (i := 7) (v := ?xv7z) rfl (Or.inl ⟨by rfl, ?xh7z⟩) ?xr7z; (case xh7z => (intro w hSw; (try dsimp only at hSw); go_simp; (try with_reducible rfl))); (try simp only [Act.put, List.setIfInBounds_toArray, List.set_cons_zero, List.set_cons_succ, List.getElem_toArray, List.getElem_cons_zero, List.getElem_cons_succ])
         refine wpAnyX_tk (i := 8) (v := ?xv8z) rfl (Or.inl ⟨by rfl, ?xh8z⟩) ?xr8z; (case xh8z => (intro w hSw; (try dsimp only at hSw); go_simp; (try with_reducible rfl))); (try simp only [Act.put, List.setIfInBounds_toArray, List.set_cons_zero, List.set_cons_succ, List.getElem_toArray, List.getElem_cons_zero, List.getElem_cons_succ])
         (try simp only [hd2])
         refine wpAnyX_tk (i := 9) (v := ?xv9z) rfl (Or.inl ⟨by rfl, ?xh9z⟩) ?xr9z; (case xh9z => (intro w hSw; (try dsimp only at hSw); go_simp; (try with_reducible rfl))); (try simp only [Act.put, List.setIfInBounds_toArray, List.set_cons_zero, List.set_cons_succ, List.getElem_toArray, List.getElem_cons_zero, List.getElem_cons_succ])
         refine wpAnyX_tk (i := 10) (v := ?xv10z) rfl (Or.inl ⟨by rfl, ?xh10z⟩) ?xr10z; (case xh10z => (intro w hSw; (try dsimp only at hSw); go_simp; (try with_reducible rfl))); (try simp only [Act.put, List.setIfInBounds_toArray, List.set_cons_zero, List.set_cons_succ, List.getElem_toArray, List.getElem_cons_zero, List.getElem_cons_succ])
         refine wpAnyX_tk (i := 11) (v := ?xv11z) rfl (Or.inl ⟨by rfl, ?xh11z⟩) ?xr11z; (case xh11z => (intro w hSw; (try dsimp only at hSw); go_simp; (try with_reducible rfl))); (try simp only [Act.put, List.setIfInBounds_toArray, List.set_cons_zero, List.set_cons_succ, List.getElem_toArray, List.getElem_cons_zero, List.getElem_cons_succ])
         refine wpAnyX_tk (i := 12) (v := ?xv12z) rfl (Or.inl ⟨by rfl, ?xh12z⟩) ?xr12z; (case xh12z => (intro w hSw; (try dsimp only at hSw); go_simp; (try with_reducible rfl))); (try simp only [Act.put, List.setIfInBounds_toArray, List.set_cons_zero, List.set_cons_succ, List.getElem_toArray, List.getElem_cons_zero, List.getElem_cons_succ])
         refine wpAnyX_onew (i := 13) (by kernel_rfl) rfl (by rfl) (fun K hK => ?_); (try simp only [List.getElem_toArray, List.getElem_cons_zero, List.getElem_cons_succ])
         go_wp2_with fail
         ((with_reducible refine (HCK.out _ ?_).mono ?_); (focus exact bstep bX below_by); rintro e w2 ⟨rfl, hb2⟩)
         go_wp2_with fail
         refine hK.out _ _ (Or.inr ⟨(X.drew.below' hb2).cell 0, (X.drew.below' hb2).cell 1, (X.drew.below' hb2).cell 2, (X.drew.below' hb2).cell 3, (X.drew.below' hb2).cell 4, (X.drew.below' hb2).cell 5, (X.drew.below' hb2).cell 6⟩) (fun hS => ?_)
         replace hS := hS.resolve_left (by decide)
         clear hK K
         refine wpAnyX_tk (i := 14) (v := ?xv14z) rfl (Or.inl ⟨by rfl, ?xh14z⟩) ?xr14z; (case xh14z => (intro w hSw; (try dsimp only at hSw); go_simp; (try with_reducible rfl))); (try simp only [Act.put, List.setIfInBounds_toArray, List.set_cons_zero, List.set_cons_succ, List.getElem_toArray, List.getElem_cons_zero, List.getElem_cons_succ])
         (try simp only [hcv'])
         refine wpAnyX_tk (i := 15) (v := ?xv15z) rfl (Or.inl ⟨by rfl, ?xh15z⟩) ?xr15z; (case xh15z => (intro w hSw; (try dsimp only at hSw); go_simp; (try with_reducible rfl))); (try simp only [Act.put, List.setIfInBounds_toArray, List.set_cons_zero, List.set_cons_succ, List.getElem_toArray, List.getElem_cons_zero, List.getElem_cons_succ])
         refine wpAnyX_tk (i := 16) (v := ?xv16z) rfl (Or.inl ⟨by rfl, ?xh16z⟩) ?xr16z; (case xh16z => (intro w hSw; (try dsimp only at hSw); go_simp; (try with_reducible rfl))); (try simp only [Act.put, List.setIfInBounds_toArray, List.set_cons_zero, List.set_cons_succ, List.getElem_toArray, List.getElem_cons_zero, List.getElem_cons_succ])
         refine wpAnyX_tk (i := 17) (v := ?xv17z) rfl (Or.inl ⟨by rfl, ?xh17z⟩) ?xr17z; (case xh17z => (intro w hSw; (try dsimp only at hSw); go_simp; (try with_reducible rfl))); (try simp only [Act.put, List.setIfInBounds_toArray, List.set_cons_zero, List.set_cons_succ, List.getElem_toArray, List.getElem_cons_zero, List.getElem_cons_succ])
         refine wpAnyX_tk (i := 18) (v := ?xv18z) rfl (Or.inl ⟨by rfl, ?xh18z⟩) ?xr18z; (case xh18z => (intro w hSw; (try dsimp only at hSw); go_simp; (try with_reducible rfl))); (try simp only [Act.put, List.setIfInBounds_toArray, List.set_cons_zero, List.set_cons_succ, List.getElem_toArray, List.getElem_cons_zero, List.getElem_cons_succ])
         refine wpAnyX_tk (i := 19) (v := ?xv19z) rfl (Or.inl ⟨by rfl, ?xh19z⟩) ?xr19z; (case xh19z => (intro w hSw; (try dsimp only at hSw); go_simp; (try with_reducible rfl))); (try simp only [Act.put, List.setIfInBounds_toArray, List.set_cons_zero, List.set_cons_succ, List.getElem_toArray, List.getElem_cons_zero, List.getElem_cons_succ])
         refine wpAnyX_take (i := 20) (v := undef) rfl (by kernel_rfl) (by kernel_rfl) (by kernel_rfl) (by kernel_rfl) (fun _ _ _ h => h) (Or.inr ⟨by rfl, rfl⟩) (by assumption) ?xr20z; (try simp only [Act.put, List.setIfInBounds_toArray, List.set_cons_zero, List.set_cons_succ, List.getElem_toArray, List.getElem_cons_zero, List.getElem_cons_succ])
         refine wpAnyX_take (i := 21) (v := undef) rfl (by kernel_rfl) (by kernel_rfl) (by kernel_rfl) (by kernel_rfl) (fun _ _ _ h => h) (Or.inr ⟨by rfl, rfl⟩) (by assumption) ?xr21z; (try simp only [Act.put, List.setIfInBounds_toArray, List.set_cons_zero, List.set_cons_succ, List.getElem_toArray, List.getElem_cons_zero, List.getElem_cons_succ])
         refine wpAnyX_take (i := 22) (v := undef) rfl (by kernel_rfl) (by kernel_rfl) (by kernel_rfl) (by kernel_rfl) (fun _ _ _ h => h) (Or.inr ⟨by rfl, rfl⟩) (by assumption) ?xr22z; (try simp only [Act.put, List.setIfInBounds_toArray, List.set_cons_zero, List.set_cons_succ, List.getElem_toArray, List.getElem_cons_zero, List.getElem_cons_succ])
         refine wpAnyX_take (i := 23) (v := undef) rfl (by kernel_rfl) (by kernel_rfl) (by kernel_rfl) (by kernel_rfl) (fun _ _ _ h => h) (Or.inr ⟨by rfl, rfl⟩) (by assumption) ?xr23z; (try simp only [Act.put, List.setIfInBounds_toArray, List.set_cons_zero, List.set_cons_succ, List.getElem_toArray, List.getElem_cons_zero, List.getElem_cons_succ])
         refine wpAnyX_take (i := 24) (v := undef) rfl (by kernel_rfl) (by kernel_rfl) (by kernel_rfl) (by kernel_rfl) (fun _ _ _ h => h) (Or.inr ⟨by rfl, rfl⟩) (by assumption) ?xr24z; (try simp only [Act.put, List.setIfInBounds_toArray, List.set_cons_zero, List.set_cons_succ, List.getElem_toArray, List.getElem_cons_zero, List.getElem_cons_succ])
         refine wpAnyX_take (i := 25) (v := undef) rfl (by kernel_rfl) (by kernel_rfl) (by kernel_rfl) (by kernel_rfl) (fun _ _ _ h => h) (Or.inr ⟨by rfl, rfl⟩) (by assumption) ?xr25z; (try simp only [Act.put, List.setIfInBounds_toArray, List.set_cons_zero, List.set_cons_succ, List.getElem_toArray, List.getElem_cons_zero, List.getElem_cons_succ])
         refine wpAnyX_take (i := 26) (v := undef) rfl (by kernel_rfl) (by kernel_rfl) (by kernel_rfl) (by kernel_rfl) (fun _ _ _ h => h) (Or.inr ⟨by rfl, rfl⟩) (by assumption) ?xr26z; (try simp only [Act.put, List.setIfInBounds_toArray, List.set_cons_zero, List.set_cons_succ, List.getElem_toArray, List.getElem_cons_zero, List.getElem_cons_succ])
         refine wpAnyX_take (i := 27) (v := undef) rfl (by kernel_rfl) (by kernel_rfl) (by kernel_rfl) (by kernel_rfl) (fun _ _ _ h => h) (Or.inr ⟨by rfl, rfl⟩) (by assumption) ?xr27z; (try simp only [Act.put, List.setIfInBounds_toArray, List.set_cons_zero, List.set_cons_succ, List.getElem_toArray, List.getElem_cons_zero, List.getElem_cons_succ])
         refine wpAnyX_take (i := 28) (v := undef) rfl (by kernel_rfl) (by kernel_rfl) (by kernel_rfl) (by kernel_rfl) (fun _ _ _ h => h) (Or.inr ⟨by rfl, rfl⟩) (by assumption) ?xr28z; (try simp only [Act.put, List.setIfInBounds_toArray, List.set_cons_zero, List.set_cons_succ, List.getElem_toArray, List.getElem_cons_zero, List.getElem_cons_succ])
         refine wpAnyX_take (i := 29) (v := undef) rfl (by kernel_rfl) (by kernel_rfl) (by kernel_rfl) (by kernel_rfl) (fun _ _ _ h => h) (Or.inr ⟨by rfl, rfl⟩) (by assumption) ?xr29z; (try simp only [Act.put, List.setIfInBounds_toArray, List.set_cons_zero, List.set_cons_succ, List.getElem_toArray, List.getElem_cons_zero, List.getElem_cons_succ])
         refine wpAnyX_tk (i := 30) (v := ?xv30z) rfl (Or.inl ⟨by rfl, ?xh30z⟩) ?xr30z; (case xh30z => (intro w hSw; (try dsimp only at hSw); go_simp; (try with_reducible rfl))); (try simp only [Act.put, List.setIfInBounds_toArray, List.set_cons_zero, List.set_cons_succ, List.getElem_toArray, List.getElem_cons_zero, List.getElem_cons_succ])
         refine wpAnyX_tk (i := 31) (v := ?xv31z) rfl (Or.inl ⟨by rfl, ?xh31z⟩) ?xr31z; (case xh31z => (intro w hSw; (try dsimp only at hSw); go_simp; (try with_reducible rfl))); (try simp only [Act.put, List.setIfInBounds_toArray, List.set_cons_zero, List.set_cons_succ, List.getElem_toArray, List.getElem_cons_zero, List.getElem_cons_succ])
         refine wpAnyX_done (by kernel_rfl) ?_ _
         go_wp2_with fail
         go_meet
         exact ⟨by simp [hk1, hk2, hcv], below_by⟩
        | succ j =>
         obtain ⟨yk, u0, hob⟩ := HOB.out j rfl
         have u1 := (bX.cell (p := ⟨b, off + j * 8, none⟩) hb).trans u0
         have hw1 : IntKind.i64.wrap ((j : Int) + 1 - 1) = (j : Int) := by rw [IntWalk.i64_in _ (by omega)]; omega
         have hw2 : IntKind.i64.wrap (j : Int) = (j : Int) := IntWalk.i64_in _ (by omega)
         have hz3 : (0 : Int) ≤ (j : Int) := by omega
         have hz4 : (j : Int) < (n : Int) := by omega
         have hz5 : (0 : Int) < (j : Int) + 1 := by omega
         have hz6 : decide ((0 : Int) < (j : Int) + 1) = true := decide_eq_true hz5
         have HBL := hide (cmpB_less yk xk)
         clear u0
         by_cases hc : cmpB yk xk < 0
         ·have hbl : Op.bytesLess yk.toList xk.toList = true := by rw [HBL.out]; simp [hc]
          have hob0 : ob = false := by rw [hob]; simp; omega
          subst hob0
          clear hob
          refine wp_region_x (l := []) (S := fun w' => w'.cell? ⟨wr.heap.size, 0, none⟩ = some (.string xk) ∧ w'.cell? ⟨wr.heap.size, 1, none⟩ = some (.int .i64 kind) ∧ w'.cell? ⟨wr.heap.size, 2, none⟩ = some (.string text) ∧ w'.cell? ⟨wr.heap.size, 3, none⟩ = some (.int .i64 count) ∧ w'.cell? ⟨wr.heap.size, 4, none⟩ = some (.slice A1 n1 c1) ∧ w'.cell? ⟨wr.heap.size, 5, none⟩ = some (.slice A2 n2 c2) ∧ w'.cell? ⟨wr.heap.size, 6, none⟩ = some (.slice A3 n3 c3) ∧ w'.cell? ⟨w.heap.size, 1, none⟩ = some (.slice (some ⟨b, off, none⟩) n c) ∧ w'.cell? ⟨b, off + j * 8, none⟩ = some (.string yk)) (by kernel_rfl) ⟨X.cell 0, X.cell 1, X.cell 2, X.cell 3, X.cell 4, X.cell 5, X.cell 6, T1.cell 1, u1⟩ (fun hS => ?_)
          refine wpAnyX_tk (i := 0) (v := ?xv0y) rfl (Or.inl ⟨by rfl, ?xh0y⟩) ?xr0y; (case xh0y => (intro w hSw; (try dsimp only at hSw); go_simp; (try with_reducible rfl))); (try simp only [Act.put, List.setIfInBounds_toArray, List.set_cons_zero, List.set_cons_succ, List.getElem_toArray, List.getElem_cons_zero, List.getElem_cons_succ])
          refine wpAnyX_tk (i := 1) (v := ?xv1y) rfl (Or.inl ⟨by rfl, ?xh1y⟩) ?xr1y; (case xh1y => (intro w hSw; (try dsimp only at hSw); go_simp; (try with_reducible rfl))); (try simp only [Act.put, List.setIfInBounds_toArray, List.set_cons_zero, List.set_cons_succ, List.getElem_toArray, List.getElem_cons_zero, List.getElem_cons_succ])
          refine wpAnyX_tk (i := 2) (v := ?xv2y) rfl (Or.inl ⟨by rfl, ?xh2y⟩) ?xr2y; (case xh2y => (intro w hSw; (try dsimp only at hSw); go_simp; (try with_reducible rfl))); (try simp only [Act.put, List.setIfInBounds_toArray, List.set_cons_zero, List.set_cons_succ, List.getElem_toArray, List.getElem_cons_zero, List.getElem_cons_succ])
          refine wpAnyX_tk (i := 3) (v := ?xv3y) rfl (Or.inl ⟨by rfl, ?xh3y⟩) ?xr3y; (case xh3y => (intro w hSw; (try dsimp only at hSw); go_simp; (try with_reducible rfl))); (try simp only [Act.put, List.setIfInBounds_toArray, List.set_cons_zero, List.set_cons_succ, List.getElem_toArray, List.getElem_cons_zero, List.getElem_cons_succ])
          (try simp only [hd1])
          refine wpAnyX_tk (i := 4) (v := ?xv4y) rfl (Or.inl ⟨by rfl, ?xh4y⟩) ?xr4y; (case xh4y => (intro w hSw; (try dsimp only at hSw); go_simp; (try with_reducible rfl))); (try simp only [Act.put, List.setIfInBounds_toArray, List.set_cons_zero, List.set_cons_succ, List.getElem_toArray, List.getElem_cons_zero, List.getElem_cons_succ])
          refine wpAnyX_tk (i := 5) (v := ?xv5y) rfl (Or.inl ⟨by rfl, ?xh5y⟩) ?xr5y; (case xh5y => (intro w hSw; (try dsimp only at hSw); go_simp; (try with_reducible rfl))); (try simp only [Act.put, List.setIfInBounds_toArray, List.set_cons_zero, List.set_cons_succ, List.getElem_toArray, List.getElem_cons_zero, List.getElem_cons_succ])
          refine wpAnyX_tk (i := 6) (v := ?xv6y) rfl (Or.inl ⟨by rfl, ?xh6y⟩) ?xr6y; (case xh6y => (intro w hSw; (try dsimp only at hSw); go_simp; (try with_reducible rfl))); (try simp only [Act.put, List.setIfInBounds_toArray, List.set_cons_zero, List.set_cons_succ, List.getElem_toArray, List.getElem_cons_zero, List.getElem_cons_succ])
          refine wpAnyX_tk (i := 7) (v := ?xv7y) rfl (Or.inl ⟨by rfl, ?xh7y⟩) ?xr7y; (case xh7y => (intro w hSw; (try dsimp only at hSw); go_simp; (try with_reducible rfl))); (try simp only [Act.put, List.setIfInBounds_toArray, List.set_cons_zero, List.set_cons_succ, List.getElem_toArray, List.getElem_cons_zero, List.getElem_cons_succ])
          refine wpAnyX_tk (i := 8) (v := ?xv8y) rfl (Or.inl ⟨by rfl, ?xh8y⟩) ?xr8y; (case xh8y => (intro w hSw; (try dsimp only at hSw); go_simp; (try with_reducible rfl))); (try simp only [Act.put, List.setIfInBounds_toArray, List.set_cons_zero, List.set_cons_succ, List.getElem_toArray, List.getElem_cons_zero, List.getElem_cons_succ])
          (try simp only [hd2])
          refine wpAnyX_tk (i := 9) (v := ?xv9y) rfl (Or.inl ⟨by rfl, ?xh9y⟩) ?xr9y; (case xh9y => (intro w hSw; (try dsimp only at hSw); go_simp; (try with_reducible rfl))); (try simp only [Act.put, List.setIfInBounds_toArray, List.set_cons_zero, List.set_cons_succ, List.getElem_toArray, List.getElem_cons_zero, List.getElem_cons_succ])
          refine wpAnyX_tk (i := 10) (v := ?xv10y) rfl (Or.inl ⟨by rfl, ?xh10y⟩) ?xr10y; (case xh10y => (intro w hSw; (try dsimp only at hSw); go_simp; (try with_reducible rfl))); (try simp only [Act.put, List.setIfInBounds_toArray, List.set_cons_zero, List.set_cons_succ, List.getElem_toArray, List.getElem_cons_zero, List.getElem_cons_succ])
          refine wpAnyX_tk (i := 11) (v := ?xv11y) rfl (Or.inl ⟨by rfl, ?xh11y⟩) ?xr11y; (case xh11y => (intro w hSw; (try dsimp only at hSw); go_simp; (try with_reducible rfl))); (try simp only [Act.put, List.setIfInBounds_toArray, List.set_cons_zero, List.set_cons_succ, List.getElem_toArray, List.getElem_cons_zero, List.getElem_cons_succ])
          refine wpAnyX_tk (i := 12) (v := ?xv12y) rfl (Or.inl ⟨by rfl, ?xh12y⟩) ?xr12y; (case xh12y => (intro w hSw; (try dsimp only at hSw); go_simp; (try with_reducible rfl))); (try simp only [Act.put, List.setIfInBounds_toArray, List.set_cons_zero, List.set_cons_succ, List.getElem_toArray, List.getElem_cons_zero, List.getElem_cons_succ])
          refine wpAnyX_onew (i := 13) (by kernel_rfl) rfl (by rfl) (fun K hK => ?_); (try simp only [List.getElem_toArray, List.getElem_cons_zero, List.getElem_cons_succ])
          go_wp2_with fail
          ((with_reducible refine (HCK.out _ ?_).mono ?_); (focus exact bstep bX below_by); rintro e w2 ⟨rfl, hb2⟩)
          go_wp2_with fail
          refine hK.out _ _ (Or.inr ⟨(X.drew.below' hb2).cell 0, (X.drew.below' hb2).cell 1, (X.drew.below' hb2).cell 2, (X.drew.below' hb2).cell 3, (X.drew.below' hb2).cell 4, (X.drew.below' hb2).cell 5, (X.drew.below' hb2).cell 6, (T1.drew.below' hb2).cell 1, ((bcell hb2).1 b (off + j * 8) hbW).trans u1⟩) (fun hS => ?_)
          replace hS := hS.resolve_left (by decide)
          clear hK K
          refine wpAnyX_tk (i := 14) (v := ?xv14y) rfl (Or.inl ⟨by rfl, ?xh14y⟩) ?xr14y; (case xh14y => (intro w hSw; (try dsimp only at hSw); go_simp; (try with_reducible rfl))); (try simp only [Act.put, List.setIfInBounds_toArray, List.set_cons_zero, List.set_cons_succ, List.getElem_toArray, List.getElem_cons_zero, List.getElem_cons_succ])
          (try simp only [hcv'])
          refine wpAnyX_tk (i := 15) (v := ?xv15y) rfl (Or.inl ⟨by rfl, ?xh15y⟩) ?xr15y; (case xh15y => (intro w hSw; (try dsimp only at hSw); go_simp; (try with_reducible rfl))); (try simp only [Act.put, List.setIfInBounds_toArray, List.set_cons_zero, List.set_cons_succ, List.getElem_toArray, List.getElem_cons_zero, List.getElem_cons_succ])
          refine wpAnyX_tk (i := 16) (v := ?xv16y) rfl (Or.inl ⟨by rfl, ?xh16y⟩) ?xr16y; (case xh16y => (intro w hSw; (try dsimp only at hSw); go_simp; (try with_reducible rfl))); (try simp only [Act.put, List.setIfInBounds_toArray, List.set_cons_zero, List.set_cons_succ, List.getElem_toArray, List.getElem_cons_zero, List.getElem_cons_succ])
          refine wpAnyX_tk (i := 17) (v := ?xv17y) rfl (Or.inl ⟨by rfl, ?xh17y⟩) ?xr17y; (case xh17y => (intro w hSw; (try dsimp only at hSw); go_simp; (try with_reducible rfl))); (try simp only [Act.put, List.setIfInBounds_toArray, List.set_cons_zero, List.set_cons_succ, List.getElem_toArray, List.getElem_cons_zero, List.getElem_cons_succ])
          refine wpAnyX_tk (i := 18) (v := ?xv18y) rfl (Or.inl ⟨by rfl, ?xh18y⟩) ?xr18y; (case xh18y => (intro w hSw; (try dsimp only at hSw); go_simp; (try with_reducible rfl))); (try simp only [Act.put, List.setIfInBounds_toArray, List.set_cons_zero, List.set_cons_succ, List.getElem_toArray, List.getElem_cons_zero, List.getElem_cons_succ])
          (try simp only [hz6])
          refine wpAnyX_tk (i := 19) (v := ?xv19y) rfl (Or.inl ⟨by rfl, ?xh19y⟩) ?xr19y; (case xh19y => (intro w hSw; (try dsimp only at hSw); go_simp; (try with_reducible rfl))); (try simp only [Act.put, List.setIfInBounds_toArray, List.set_cons_zero, List.set_cons_succ, List.getElem_toArray, List.getElem_cons_zero, List.getElem_cons_succ])
          refine wpAnyX_tk (i := 20) (v := ?xv20y) rfl (Or.inl ⟨by rfl, ?xh20y⟩) ?xr20y; (case xh20y => (intro w hSw; (try dsimp only at hSw); go_simp; (try with_reducible rfl))); (try simp only [Act.put, List.setIfInBounds_toArray, List.set_cons_zero, List.set_cons_succ, List.getElem_toArray, List.getElem_cons_zero, List.getElem_cons_succ])
          refine wpAnyX_tk (i := 21) (v := ?xv21y) rfl (Or.inl ⟨by rfl, ?xh21y⟩) ?xr21y; (case xh21y => (intro w hSw; (try dsimp only at hSw); go_simp; (try with_reducible rfl))); (try simp only [Act.put, List.setIfInBounds_toArray, List.set_cons_zero, List.set_cons_succ, List.getElem_toArray, List.getElem_cons_zero, List.getElem_cons_succ])
          refine wpAnyX_tk (i := 22) (v := ?xv22y) rfl (Or.inl ⟨by rfl, ?xh22y⟩) ?xr22y; (case xh22y => (intro w hSw; (try dsimp only at hSw); go_simp; (try with_reducible rfl))); (try simp only [Act.put, List.setIfInBounds_toArray, List.set_cons_zero, List.set_cons_succ, List.getElem_toArray, List.getElem_cons_zero, List.getElem_cons_succ])
          refine wpAnyX_tk (i := 23) (v := ?xv23y) rfl (Or.inl ⟨by rfl, ?xh23y⟩) ?xr23y; (case xh23y => (intro w hSw; (try dsimp only at hSw); go_simp; (try with_reducible rfl))); (try simp only [Act.put, List.setIfInBounds_toArray, List.set_cons_zero, List.set_cons_succ, List.getElem_toArray, List.getElem_cons_zero, List.getElem_cons_succ])
          refine wpAnyX_tk (i := 24) (v := ?xv24y) rfl (Or.inl ⟨by rfl, ?xh24y⟩) ?xr24y; (case xh24y => (intro w hSw; (try dsimp only at hSw); go_simp; (try with_reducible rfl))); (try simp only [Act.put, List.setIfInBounds_toArray, List.set_cons_zero, List.set_cons_succ, List.getElem_toArray, List.getElem_cons_zero, List.getElem_cons_succ])
          refine wpAnyX_tk (i := 25) (v := ?xv25y) rfl (Or.inl ⟨by rfl, ?xh25y⟩) ?xr25y; (case xh25y => (intro w hSw; (try dsimp only at hSw); go_simp; (try with_reducible rfl))); (try simp only [Act.put, List.setIfInBounds_toArray, List.set_cons_zero, List.set_cons_succ, List.getElem_toArray, List.getElem_cons_zero, List.getElem_cons_succ])
          refine wpAnyX_tk (i := 26) (v := ?xv26y) rfl (Or.inl ⟨by rfl, ?xh26y⟩) ?xr26y; (case xh26y => (intro w hSw; (try dsimp only at hSw); go_simp; (try with_reducible rfl))); (try simp only [Act.put, List.setIfInBounds_toArray, List.set_cons_zero, List.set_cons_succ, List.getElem_toArray, List.getElem_cons_zero, List.getElem_cons_succ])
          refine wpAnyX_tk (i := 27) (v := ?xv27y) rfl (Or.inl ⟨by rfl, ?xh27y⟩) ?xr27y; (case xh27y => (intro w hSw; (try dsimp only at hSw); go_simp; (try with_reducible rfl))); (try simp only [Act.put, List.setIfInBounds_toArray, List.set_cons_zero, List.set_cons_succ, List.getElem_toArray, List.getElem_cons_zero, List.getElem_cons_succ])
          refine wpAnyX_tk (i := 28) (v := ?xv28y) rfl (Or.inl ⟨by rfl, ?xh28y⟩) ?xr28y; (case xh28y => (intro w hSw; (try dsimp only at hSw); go_simp; (try with_reducible rfl))); (try simp only [Act.put, List.setIfInBounds_toArray, List.set_cons_zero, List.set_cons_succ, List.getElem_toArray, List.getElem_cons_zero, List.getElem_cons_succ])
          refine wpAnyX_tk (i := 29) (v := ?xv29y) rfl (Or.inl ⟨by rfl, ?xh29y⟩) ?xr29y; (case xh29y => (intro w hSw; (try dsimp only at hSw); go_simp; (try with_reducible rfl))); (try simp only [Act.put, List.setIfInBounds_toArray, List.set_cons_zero, List.set_cons_succ, List.getElem_toArray, List.getElem_cons_zero, List.getElem_cons_succ])
          (try simp only [hbl])
          refine wpAnyX_tk (i := 30) (v := ?xv30y) rfl (Or.inl ⟨by rfl, ?xh30y⟩) ?xr30y; (case xh30y => (intro w hSw; (try dsimp only at hSw); go_simp; (try with_reducible rfl))); (try simp only [Act.put, List.setIfInBounds_toArray, List.set_cons_zero, List.set_cons_succ, List.getElem_toArray, List.getElem_cons_zero, List.getElem_cons_succ])
          refine wpAnyX_tk (i := 31) (v := ?xv31y) rfl (Or.inl ⟨by rfl, ?xh31y⟩) ?xr31y; (case xh31y => (intro w hSw; (try dsimp only at hSw); go_simp; (try with_reducible rfl))); (try simp only [Act.put, List.setIfInBounds_toArray, List.set_cons_zero, List.set_cons_succ, List.getElem_toArray, List.getElem_cons_zero, List.getElem_cons_succ])
          refine wpAnyX_done (by kernel_rfl) ?_ _
          go_wp2_with fail
          go_meet
          exact ⟨by simp [hk1, hk2, hcv], below_by⟩
         ·have hbl : Op.bytesLess yk.toList xk.toList = false := by rw [HBL.out]; simp; omega
          have hob0 : ob = true := by rw [hob]; simp; omega
          subst hob0
          clear hob
          refine wp_region_x (l := []) (S := fun w' => w'.cell? ⟨wr.heap.size, 0, none⟩ = some (.string xk) ∧ w'.cell? ⟨wr.heap.size, 1, none⟩ = some (.int .i64 kind) ∧ w'.cell? ⟨wr.heap.size, 2, none⟩ = some (.string text) ∧ w'.cell? ⟨wr.heap.size, 3, none⟩ = some (.int .i64 count) ∧ w'.cell? ⟨wr.heap.size, 4, none⟩ = some (.slice A1 n1 c1) ∧ w'.cell? ⟨wr.heap.size, 5, none⟩ = some (.slice A2 n2 c2) ∧ w'.cell? ⟨wr.heap.size, 6, none⟩ = some (.slice A3 n3 c3) ∧ w'.cell? ⟨w.heap.size, 1, none⟩ = some (.slice (some ⟨b, off, none⟩) n c) ∧ w'.cell? ⟨b, off + j * 8, none⟩ = some (.string yk)) (by kernel_rfl) ⟨X.cell 0, X.cell 1, X.cell 2, X.cell 3, X.cell 4, X.cell 5, X.cell 6, T1.cell 1, u1⟩ (fun hS => ?_)
          refine wpAnyX_tk (i := 0) (v := ?xv0x) rfl (Or.inl ⟨by rfl, ?xh0x⟩) ?xr0x; (case xh0x => (intro w hSw; (try dsimp only at hSw); go_simp; (try with_reducible rfl))); (try simp only [Act.put, List.setIfInBounds_toArray, List.set_cons_zero, List.set_cons_succ, List.getElem_toArray, List.getElem_cons_zero, List.getElem_cons_succ])
          refine wpAnyX_tk (i := 1) (v := ?xv1x) rfl (Or.inl ⟨by rfl, ?xh1x⟩) ?xr1x; (case xh1x => (intro w hSw; (try dsimp only at hSw); go_simp; (try with_reducible rfl))); (try simp only [Act.put, List.setIfInBounds_toArray, List.set_cons_zero, List.set_cons_succ, List.getElem_toArray, List.getElem_cons_zero, List.getElem_cons_succ])
          refine wpAnyX_tk (i := 2) (v := ?xv2x) rfl (Or.inl ⟨by rfl, ?xh2x⟩) ?xr2x; (case xh2x => (intro w hSw; (try dsimp only at hSw); go_simp; (try with_reducible rfl))); (try simp only [Act.put, List.setIfInBounds_toArray, List.set_cons_zero, List.set_cons_succ, List.getElem_toArray, List.getElem_cons_zero, List.getElem_cons_succ])
          refine wpAnyX_tk (i := 3) (v := ?xv3x) rfl (Or.inl ⟨by rfl, ?xh3x⟩) ?xr3x; (case xh3x => (intro w hSw; (try dsimp only at hSw); go_simp; (try with_reducible rfl))); (try simp only [Act.put, List.setIfInBounds_toArray, List.set_cons_zero, List.set_cons_succ, List.getElem_toArray, List.getElem_cons_zero, List.getElem_cons_succ])
          (try simp only [hd1])
          refine wpAnyX_tk (i := 4) (v := ?xv4x) rfl (Or.inl ⟨by rfl, ?xh4x⟩) ?xr4x; (case xh4x => (intro w hSw; (try dsimp only at hSw); go_simp; (try with_reducible rfl))); (try simp only [Act.put, List.setIfInBounds_toArray, List.set_cons_zero, List.set_cons_succ, List.getElem_toArray, List.getElem_cons_zero, List.getElem_cons_succ])
          refine wpAnyX_tk (i := 5) (v := ?xv5x) rfl (Or.inl ⟨by rfl, ?xh5x⟩) ?xr5x; (case xh5x => (intro w hSw; (try dsimp only at hSw); go_simp; (try with_reducible rfl))); (try simp only [Act.put, List.setIfInBounds_toArray, List.set_cons_zero, List.set_cons_succ, List.getElem_toArray, List.getElem_cons_zero, List.getElem_cons_succ])
          refine wpAnyX_tk (i := 6) (v := ?xv6x) rfl (Or.inl ⟨by rfl, ?xh6x⟩) ?xr6x; (case xh6x => (intro w hSw; (try dsimp only at hSw); go_simp; (try with_reducible rfl))); (try simp only [Act.put, List.setIfInBounds_toArray, List.set_cons_zero, List.set_cons_succ, List.getElem_toArray, List.getElem_cons_zero, List.getElem_cons_succ])
          refine wpAnyX_tk (i := 7) (v := ?xv7x) rfl (Or.inl ⟨by rfl, ?xh7x⟩) ?xr7x; (case xh7x => (intro w hSw; (try dsimp only at hSw); go_simp; (try with_reducible rfl))); (try simp only [Act.put, List.setIfInBounds_toArray, List.set_cons_zero, List.set_cons_succ, List.getElem_toArray, List.getElem_cons_zero, List.getElem_cons_succ])
          refine wpAnyX_tk (i := 8) (v := ?xv8x) rfl (Or.inl ⟨by rfl, ?xh8x⟩) ?xr8x; (case xh8x => (intro w hSw; (try dsimp only at hSw); go_simp; (try with_reducible rfl))); (try simp only [Act.put, List.setIfInBounds_toArray, List.set_cons_zero, List.set_cons_succ, List.getElem_toArray, List.getElem_cons_zero, List.getElem_cons_succ])
          (try simp only [hd2])
          refine wpAnyX_tk (i := 9) (v := ?xv9x) rfl (Or.inl ⟨by rfl, ?xh9x⟩) ?xr9x; (case xh9x => (intro w hSw; (try dsimp only at hSw); go_simp; (try with_reducible rfl))); (try simp only [Act.put, List.setIfInBounds_toArray, List.set_cons_zero, List.set_cons_succ, List.getElem_toArray, List.getElem_cons_zero, List.getElem_cons_succ])
          refine wpAnyX_tk (i := 10) (v := ?xv10x) rfl (Or.inl ⟨by rfl, ?xh10x⟩) ?xr10x; (case xh10x => (intro w hSw; (try dsimp only at hSw); go_simp; (try with_reducible rfl))); (try simp only [Act.put, List.setIfInBounds_toArray, List.set_cons_zero, List.set_cons_succ, List.getElem_toArray, List.getElem_cons_zero, List.getElem_cons_succ])
          refine wpAnyX_tk (i := 11) (v := ?xv11x) rfl (Or.inl ⟨by rfl, ?xh11x⟩) ?xr11x; (case xh11x => (intro w hSw; (try dsimp only at hSw); go_simp; (try with_reducible rfl))); (try simp only [Act.put, List.setIfInBounds_toArray, List.set_cons_zero, List.set_cons_succ, List.getElem_toArray, List.getElem_cons_zero, List.getElem_cons_succ])
          refine wpAnyX_tk (i := 12) (v := ?xv12x) rfl (Or.inl ⟨by rfl, ?xh12x⟩) ?xr12x; (case xh12x => (intro w hSw; (try dsimp only at hSw); go_simp; (try with_reducible rfl))); (try simp only [Act.put, List.setIfInBounds_toArray, List.set_cons_zero, List.set_cons_succ, List.getElem_toArray, List.getElem_cons_zero, List.getElem_cons_succ])
          refine wpAnyX_onew (i := 13) (by kernel_rfl) rfl (by rfl) (fun K hK => ?_); (try simp only [List.getElem_toArray, List.getElem_cons_zero, List.getElem_cons_succ])
          go_wp2_with fail
          ((with_reducible refine (HCK.out _ ?_).mono ?_); (focus exact bstep bX below_by); rintro e w2 ⟨rfl, hb2⟩)
          go_wp2_with fail
          refine hK.out _ _ (Or.inr ⟨(X.drew.below' hb2).cell 0, (X.drew.below' hb2).cell 1, (X.drew.below' hb2).cell 2, (X.drew.below' hb2).cell 3, (X.drew.below' hb2).cell 4, (X.drew.below' hb2).cell 5, (X.drew.below' hb2).cell 6, (T1.drew.below' hb2).cell 1, ((bcell hb2).1 b (off + j * 8) hbW).trans u1⟩) (fun hS => ?_)
          replace hS := hS.resolve_left (by decide)
          clear hK K
          refine wpAnyX_tk (i := 14) (v := ?xv14x) rfl (Or.inl ⟨by rfl, ?xh14x⟩) ?xr14x; (case xh14x => (intro w hSw; (try dsimp only at hSw); go_simp; (try with_reducible rfl))); (try simp only [Act.put, List.setIfInBounds_toArray, List.set_cons_zero, List.set_cons_succ, List.getElem_toArray, List.getElem_cons_zero, List.getElem_cons_succ])
          (try simp only [hcv'])
          refine wpAnyX_tk (i := 15) (v := ?xv15x) rfl (Or.inl ⟨by rfl, ?xh15x⟩) ?xr15x; (case xh15x => (intro w hSw; (try dsimp only at hSw); go_simp; (try with_reducible rfl))); (try simp only [Act.put, List.setIfInBounds_toArray, List.set_cons_zero, List.set_cons_succ, List.getElem_toArray, List.getElem_cons_zero, List.getElem_cons_succ])
          refine wpAnyX_tk (i := 16) (v := ?xv16x) rfl (Or.inl ⟨by rfl, ?xh16x⟩) ?xr16x; (case xh16x => (intro w hSw; (try dsimp only at hSw); go_simp; (try with_reducible rfl))); (try simp only [Act.put, List.setIfInBounds_toArray, List.set_cons_zero, List.set_cons_succ, List.getElem_toArray, List.getElem_cons_zero, List.getElem_cons_succ])
          refine wpAnyX_tk (i := 17) (v := ?xv17x) rfl (Or.inl ⟨by rfl, ?xh17x⟩) ?xr17x; (case xh17x => (intro w hSw; (try dsimp only at hSw); go_simp; (try with_reducible rfl))); (try simp only [Act.put, List.setIfInBounds_toArray, List.set_cons_zero, List.set_cons_succ, List.getElem_toArray, List.getElem_cons_zero, List.getElem_cons_succ])
          refine wpAnyX_tk (i := 18) (v := ?xv18x) rfl (Or.inl ⟨by rfl, ?xh18x⟩) ?xr18x; (case xh18x => (intro w hSw; (try dsimp only at hSw); go_simp; (try with_reducible rfl))); (try simp only [Act.put, List.setIfInBounds_toArray, List.set_cons_zero, List.set_cons_succ, List.getElem_toArray, List.getElem_cons_zero, List.getElem_cons_succ])
          (try simp only [hz6])
          refine wpAnyX_tk (i := 19) (v := ?xv19x) rfl (Or.inl ⟨by rfl, ?xh19x⟩) ?xr19x; (case xh19x => (intro w hSw; (try dsimp only at hSw); go_simp; (try with_reducible rfl))); (try simp only [Act.put, List.setIfInBounds_toArray, List.set_cons_zero, List.set_cons_succ, List.getElem_toArray, List.getElem_cons_zero, List.getElem_cons_succ])
          refine wpAnyX_tk (i := 20) (v := ?xv20x) rfl (Or.inl ⟨by rfl, ?xh20x⟩) ?xr20x; (case xh20x => (intro w hSw; (try dsimp only at hSw); go_simp; (try with_reducible rfl))); (try simp only [Act.put, List.setIfInBounds_toArray, List.set_cons_zero, List.set_cons_succ, List.getElem_toArray, List.getElem_cons_zero, List.getElem_cons_succ])
          refine wpAnyX_tk (i := 21) (v := ?xv21x) rfl (Or.inl ⟨by rfl, ?xh21x⟩) ?xr21x; (case xh21x => (intro w hSw; (try dsimp only at hSw); go_simp; (try with_reducible rfl))); (try simp only [Act.put, List.setIfInBounds_toArray, List.set_cons_zero, List.set_cons_succ, List.getElem_toArray, List.getElem_cons_zero, List.getElem_cons_succ])
          refine wpAnyX_tk (i := 22) (v := ?xv22x) rfl (Or.inl ⟨by rfl, ?xh22x⟩) ?xr22x; (case xh22x => (intro w hSw; (try dsimp only at hSw); go_simp; (try with_reducible rfl))); (try simp only [Act.put, List.setIfInBounds_toArray, List.set_cons_zero, List.set_cons_succ, List.getElem_toArray, List.getElem_cons_zero, List.getElem_cons_succ])
          refine wpAnyX_tk (i := 23) (v := ?xv23x) rfl (Or.inl ⟨by rfl, ?xh23x⟩) ?xr23x; (case xh23x => (intro w hSw; (try dsimp only at hSw); go_simp; (try with_reducible rfl))); (try simp only [Act.put, List.setIfInBounds_toArray, List.set_cons_zero, List.set_cons_succ, List.getElem_toArray, List.getElem_cons_zero, List.getElem_cons_succ])
          refine wpAnyX_tk (i := 24) (v := ?xv24x) rfl (Or.inl ⟨by rfl, ?xh24x⟩) ?xr24x; (case xh24x => (intro w hSw; (try dsimp only at hSw); go_simp; (try with_reducible rfl))); (try simp only [Act.put, List.setIfInBounds_toArray, List.set_cons_zero, List.set_cons_succ, List.getElem_toArray, List.getElem_cons_zero, List.getElem_cons_succ])
          refine wpAnyX_tk (i := 25) (v := ?xv25x) rfl (Or.inl ⟨by rfl, ?xh25x⟩) ?xr25x; (case xh25x => (intro w hSw; (try dsimp only at hSw); go_simp; (try with_reducible rfl))); (try simp only [Act.put, List.setIfInBounds_toArray, List.set_cons_zero, List.set_cons_succ, List.getElem_toArray, List.getElem_cons_zero, List.getElem_cons_succ])
          refine wpAnyX_tk (i := 26) (v := ?xv26x) rfl (Or.inl ⟨by rfl, ?xh26x⟩) ?xr26x; (case xh26x => (intro w hSw; (try dsimp only at hSw); go_simp; (try with_reducible rfl))); (try simp only [Act.put, List.setIfInBounds_toArray, List.set_cons_zero, List.set_cons_succ, List.getElem_toArray, List.getElem_cons_zero, List.getElem_cons_succ])
          refine wpAnyX_tk (i := 27) (v := ?xv27x) rfl (Or.inl ⟨by rfl, ?xh27x⟩) ?xr27x; (case xh27x => (intro w hSw; (try dsimp only at hSw); go_simp; (try with_reducible rfl))); (try simp only [Act.put, List.setIfInBounds_toArray, List.set_cons_zero, List.set_cons_succ, List.getElem_toArray, List.getElem_cons_zero, List.getElem_cons_succ])
          refine wpAnyX_tk (i := 28) (v := ?xv28x) rfl (Or.inl ⟨by rfl, ?xh28x⟩) ?xr28x; (case xh28x => (intro w hSw; (try dsimp only at hSw); go_simp; (try with_reducible rfl))); (try simp only [Act.put, List.setIfInBounds_toArray, List.set_cons_zero, List.set_cons_succ, List.getElem_toArray, List.getElem_cons_zero, List.getElem_cons_succ])
          refine wpAnyX_tk (i := 29) (v := ?xv29x) rfl (Or.inl ⟨by rfl, ?xh29x⟩) ?xr29x; (case xh29x => (intro w hSw; (try dsimp only at hSw); go_simp; (try with_reducible rfl))); (try simp only [Act.put, List.setIfInBounds_toArray, List.set_cons_zero, List.set_cons_succ, List.getElem_toArray, List.getElem_cons_zero, List.getElem_cons_succ])
          (try simp only [hbl])
          refine wpAnyX_tk (i := 30) (v := ?xv30x) rfl (Or.inl ⟨by rfl, ?xh30x⟩) ?xr30x; (case xh30x => (intro w hSw; (try dsimp only at hSw); go_simp; (try with_reducible rfl))); (try simp only [Act.put, List.setIfInBounds_toArray, List.set_cons_zero, List.set_cons_succ, List.getElem_toArray, List.getElem_cons_zero, List.getElem_cons_succ])
          refine wpAnyX_tk (i := 31) (v := ?xv31x) rfl (Or.inl ⟨by rfl, ?xh31x⟩) ?xr31x; (case xh31x => (intro w hSw; (try dsimp only at hSw); go_simp; (try with_reducible rfl))); (try simp only [Act.put, List.setIfInBounds_toArray, List.set_cons_zero, List.set_cons_succ, List.getElem_toArray, List.getElem_cons_zero, List.getElem_cons_succ])
          refine wpAnyX_done (by kernel_rfl) ?_ _
          go_wp2_with fail
          go_meet
          exact ⟨by simp, below_by⟩
       ·have hcv' : (cv != 0) = true := by simp [hcv]
        refine wp_region_x (l := []) (S := fun w' => w'.cell? ⟨wr.heap.size, 0, none⟩ = some (.string xk) ∧ w'.cell? ⟨wr.heap.size, 1, none⟩ = some (.int .i64 kind) ∧ w'.cell? ⟨wr.heap.size, 2, none⟩ = some (.string text) ∧ w'.cell? ⟨wr.heap.size, 3, none⟩ = some (.int .i64 count) ∧ w'.cell? ⟨wr.heap.size, 4, none⟩ = some (.slice A1 n1 c1) ∧ w'.cell? ⟨wr.heap.size, 5, none⟩ = some (.slice A2 n2 c2) ∧ w'.cell? ⟨wr.heap.size, 6, none⟩ = some (.slice A3 n3 c3)) (by kernel_rfl) ⟨X.cell 0, X.cell 1, X.cell 2, X.cell 3, X.cell 4, X.cell 5, X.cell 6⟩ (fun hS => ?_)
        refine wpAnyX_tk (i := 0) (v := ?xv0w) rfl (Or.inl ⟨by rfl, ?xh0w⟩) ?xr0w; (case xh0w => (intro w hSw; (try dsimp only at hSw); go_simp; (try with_reducible rfl))); (try simp only [Act.put, List.setIfInBounds_toArray, List.set_cons_zero, List.set_cons_succ, List.getElem_toArray, List.getElem_cons_zero, List.getElem_cons_succ])
        refine wpAnyX_tk (i := 1) (v := ?xv1w) rfl (Or.inl ⟨by rfl, ?xh1w⟩) ?xr1w; (case xh1w => (intro w hSw; (try dsimp only at hSw); go_simp; (try with_reducible rfl))); (try simp only [Act.put, List.setIfInBounds_toArray, List.set_cons_zero, List.set_cons_succ, List.getElem_toArray, List.getElem_cons_zero, List.getElem_cons_succ])
        refine wpAnyX_tk (i := 2) (v := ?xv2w) rfl (Or.inl ⟨by rfl, ?xh2w⟩) ?xr2w; (case xh2w => (intro w hSw; (try dsimp only at hSw); go_simp; (try with_reducible rfl))); (try simp only [Act.put, List.setIfInBounds_toArray, List.set_cons_zero, List.set_cons_succ, List.getElem_toArray, List.getElem_cons_zero, List.getElem_cons_succ])
        refine wpAnyX_tk (i := 3) (v := ?xv3w) rfl (Or.inl ⟨by rfl, ?xh3w⟩) ?xr3w; (case xh3w => (intro w hSw; (try dsimp only at hSw); go_simp; (try with_reducible rfl))); (try simp only [Act.put, List.setIfInBounds_toArray, List.set_cons_zero, List.set_cons_succ, List.getElem_toArray, List.getElem_cons_zero, List.getElem_cons_succ])
        (try simp only [hd1])
        refine wpAnyX_tk (i := 4) (v := ?xv4w) rfl (Or.inl ⟨by rfl, ?xh4w⟩) ?xr4w; (case xh4w => (intro w hSw; (try dsimp only at hSw); go_simp; (try with_reducible rfl))); (try simp only [Act.put, List.setIfInBounds_toArray, List.set_cons_zero, List.set_cons_succ, List.getElem_toArray, List.getElem_cons_zero, List.getElem_cons_succ])
        refine wpAnyX_tk (i := 5) (v := ?xv5w) rfl (Or.inl ⟨by rfl, ?xh5w⟩) ?xr5w; (case xh5w => (intro w hSw; (try dsimp only at hSw); go_simp; (try with_reducible rfl))); (try simp only [Act.put, List.setIfInBounds_toArray, List.set_cons_zero, List.set_cons_succ, List.getElem_toArray, List.getElem_cons_zero, List.getElem_cons_succ])
        refine wpAnyX_tk (i := 6) (v := ?xv6w) rfl (Or.inl ⟨by rfl, ?xh6w⟩) ?xr6w; (case xh6w => (intro w hSw; (try dsimp only at hSw); go_simp; (try with_reducible rfl))); (try simp only [Act.put, List.setIfInBounds_toArray, List.set_cons_zero, List.set_cons_succ, List.getElem_toArray, List.getElem_cons_zero, List.getElem_cons_succ])
        refine wpAnyX_tk (i := 7) (v := ?xv7w) rfl (Or.inl ⟨by rfl, ?xh7w⟩) ?xr7w; (case xh7w => (intro w hSw; (try dsimp only at hSw); go_simp; (try with_reducible rfl))); (try simp only [Act.put, List.setIfInBounds_toArray, List.set_cons_zero, List.set_cons_succ, List.getElem_toArray, List.getElem_cons_zero, List.getElem_cons_succ])
        refine wpAnyX_tk (i := 8) (v := ?xv8w) rfl (Or.inl ⟨by rfl, ?xh8w⟩) ?xr8w; (case xh8w => (intro w hSw; (try dsimp only at hSw); go_simp; (try with_reducible rfl))); (try simp only [Act.put, List.setIfInBounds_toArray, List.set_cons_zero, List.set_cons_succ, List.getElem_toArray, List.getElem_cons_zero, List.getElem_cons_succ])
        (try simp only [hd2])
        refine wpAnyX_tk (i := 9) (v := ?xv9w) rfl (Or.inl ⟨by rfl, ?xh9w⟩) ?xr9w; (case xh9w => (intro w hSw; (try dsimp only at hSw); go_simp; (try with_reducible rfl))); (try simp only [Act.put, List.setIfInBounds_toArray, List.set_cons_zero, List.set_cons_succ, List.getElem_toArray, List.getElem_cons_zero, List.getElem_cons_succ])
        refine wpAnyX_tk (i := 10) (v := ?xv10w) rfl (Or.inl ⟨by rfl, ?xh10w⟩) ?xr10w; (case xh10w => (intro w hSw; (try dsimp only at hSw); go_simp; (try with_reducible rfl))); (try simp only [Act.put, List.setIfInBounds_toArray, List.set_cons_zero, List.set_cons_succ, List.getElem_toArray, List.getElem_cons_zero, List.getElem_cons_succ])
        refine wpAnyX_tk (i := 11) (v := ?xv11w) rfl (Or.inl ⟨by rfl, ?xh11w⟩) ?xr11w; (case xh11w => (intro w hSw; (try dsimp only at hSw); go_simp; (try with_reducible rfl))); (try simp only [Act.put, List.setIfInBounds_toArray, List.set_cons_zero, List.set_cons_succ, List.getElem_toArray, List.getElem_cons_zero, List.getElem_cons_succ])
        refine wpAnyX_tk (i := 12) (v := ?xv12w) rfl (Or.inl ⟨by rfl, ?xh12w⟩) ?xr12w; (case xh12w => (intro w hSw; (try dsimp only at hSw); go_simp; (try with_reducible rfl))); (try simp only [Act.put, List.setIfInBounds_toArray, List.set_cons_zero, List.set_cons_succ, List.getElem_toArray, List.getElem_cons_zero, List.getElem_cons_succ])
        refine wpAnyX_onew (i := 13) (by kernel_rfl) rfl (by rfl) (fun K hK => ?_); (try simp only [List.getElem_toArray, List.getElem_cons_zero, List.getElem_cons_succ])
        go_wp2_with fail
        ((with_reducible refine (HCK.out _ ?_).mono ?_); (focus exact bstep bX below_by); rintro e w2 ⟨rfl, hb2⟩)
        go_wp2_with fail
        refine hK.out _ _ (Or.inr ⟨(X.drew.below' hb2).cell 0, (X.drew.below' hb2).cell 1, (X.drew.below' hb2).cell 2, (X.drew.below' hb2).cell 3, (X.drew.below' hb2).cell 4, (X.drew.below' hb2).cell 5, (X.drew.below' hb2).cell 6⟩) (fun hS => ?_)
        replace hS := hS.resolve_left (by decide)
        clear hK K
        refine wpAnyX_tk (i := 14) (v := ?xv14w) rfl (Or.inl ⟨by rfl, ?xh14w⟩) ?xr14w; (case xh14w => (intro w hSw; (try dsimp only at hSw); go_simp; (try with_reducible rfl))); (try simp only [Act.put, List.setIfInBounds_toArray, List.set_cons_zero, List.set_cons_succ, List.getElem_toArray, List.getElem_cons_zero, List.getElem_cons_succ])
        (try simp only [hcv'])
        refine wpAnyX_tk (i := 15) (v := ?xv15w) rfl (Or.inl ⟨by rfl, ?xh15w⟩) ?xr15w; (case xh15w => (intro w hSw; (try dsimp only at hSw); go_simp; (try with_reducible rfl))); (try simp only [Act.put, List.setIfInBounds_toArray, List.set_cons_zero, List.set_cons_succ, List.getElem_toArray, List.getElem_cons_zero, List.getElem_cons_succ])
        refine wpAnyX_tk (i := 16) (v := ?xv16w) rfl (Or.inl ⟨by rfl, ?xh16w⟩) ?xr16w; (case xh16w => (intro w hSw; (try dsimp only at hSw); go_simp; (try with_reducible rfl))); (try simp only [Act.put, List.setIfInBounds_toArray, List.set_cons_zero, List.set_cons_succ, List.getElem_toArray, List.getElem_cons_zero, List.getElem_cons_succ])
        refine wpAnyX_take (i := 17) (v := undef) rfl (by kernel_rfl) (by kernel_rfl) (by kernel_rfl) (by kernel_rfl) (fun _ _ _ h => h) (Or.inr ⟨by rfl, rfl⟩) (by assumption) ?xr17w; (try simp only [Act.put, List.setIfInBounds_toArray, List.set_cons_zero, List.set_cons_succ, List.getElem_toArray, List.getElem_cons_zero, List.getElem_cons_succ])
        refine wpAnyX_take (i := 18) (v := undef) rfl (by kernel_rfl) (by kernel_rfl) (by kernel_rfl) (by kernel_rfl) (fun _ _ _ h => h) (Or.inr ⟨by rfl, rfl⟩) (by assumption) ?xr18w; (try simp only [Act.put, List.setIfInBounds_toArray, List.set_cons_zero, List.set_cons_succ, List.getElem_toArray, List.getElem_cons_zero, List.getElem_cons_succ])
        refine wpAnyX_take (i := 19) (v := undef) rfl (by kernel_rfl) (by kernel_rfl) (by kernel_rfl) (by kernel_rfl) (fun _ _ _ h => h) (Or.inr ⟨by rfl, rfl⟩) (by assumption) ?xr19w; (try simp only [Act.put, List.setIfInBounds_toArray, List.set_cons_zero, List.set_cons_succ, List.getElem_toArray, List.getElem_cons_zero, List.getElem_cons_succ])
        refine wpAnyX_take (i := 20) (v := undef) rfl (by kernel_rfl) (by kernel_rfl) (by kernel_rfl) (by kernel_rfl) (fun _ _ _ h => h) (Or.inr ⟨by rfl, rfl⟩) (by assumption) ?xr20w; (try simp only [Act.put, List.setIfInBounds_toArray, List.set_cons_zero, List.set_cons_succ, List.getElem_toArray, List.getElem_cons_zero, List.getElem_cons_succ])
        refine wpAnyX_take (i := 21) (v := undef) rfl (by kernel_rfl) (by kernel_rfl) (by kernel_rfl) (by kernel_rfl) (fun _ _ _ h => h) (Or.inr ⟨by rfl, rfl⟩) (by assumption) ?xr21w; (try simp only [Act.put, List.setIfInBounds_toArray, List.set_cons_zero, List.set_cons_succ, List.getElem_toArray, List.getElem_cons_zero, List.getElem_cons_succ])
        refine wpAnyX_take (i := 22) (v := undef) rfl (by kernel_rfl) (by kernel_rfl) (by kernel_rfl) (by kernel_rfl) (fun _ _ _ h => h) (Or.inr ⟨by rfl, rfl⟩) (by assumption) ?xr22w; (try simp only [Act.put, List.setIfInBounds_toArray, List.set_cons_zero, List.set_cons_succ, List.getElem_toArray, List.getElem_cons_zero, List.getElem_cons_succ])
        refine wpAnyX_take (i := 23) (v := undef) rfl (by kernel_rfl) (by kernel_rfl) (by kernel_rfl) (by kernel_rfl) (fun _ _ _ h => h) (Or.inr ⟨by rfl, rfl⟩) (by assumption) ?xr23w; (try simp only [Act.put, List.setIfInBounds_toArray, List.set_cons_zero, List.set_cons_succ, List.getElem_toArray, List.getElem_cons_zero, List.getElem_cons_succ])
        refine wpAnyX_take (i := 24) (v := undef) rfl (by kernel_rfl) (by kernel_rfl) (by kernel_rfl) (by kernel_rfl) (fun _ _ _ h => h) (Or.inr ⟨by rfl, rfl⟩) (by assumption) ?xr24w; (try simp only [Act.put, List.setIfInBounds_toArray, List.set_cons_zero, List.set_cons_succ, List.getElem_toArray, List.getElem_cons_zero, List.getElem_cons_succ])
        refine wpAnyX_take (i := 25) (v := undef) rfl (by kernel_rfl) (by kernel_rfl) (by kernel_rfl) (by kernel_rfl) (fun _ _ _ h => h) (Or.inr ⟨by rfl, rfl⟩) (by assumption) ?xr25w; (try simp only [Act.put, List.setIfInBounds_toArray, List.set_cons_zero, List.set_cons_succ, List.getElem_toArray, List.getElem_cons_zero, List.getElem_cons_succ])
        refine wpAnyX_take (i := 26) (v := undef) rfl (by kernel_rfl) (by kernel_rfl) (by kernel_rfl) (by kernel_rfl) (fun _ _ _ h => h) (Or.inr ⟨by rfl, rfl⟩) (by assumption) ?xr26w; (try simp only [Act.put, List.setIfInBounds_toArray, List.set_cons_zero, List.set_cons_succ, List.getElem_toArray, List.getElem_cons_zero, List.getElem_cons_succ])
        refine wpAnyX_take (i := 27) (v := undef) rfl (by kernel_rfl) (by kernel_rfl) (by kernel_rfl) (by kernel_rfl) (fun _ _ _ h => h) (Or.inr ⟨by rfl, rfl⟩) (by assumption) ?xr27w; (try simp only [Act.put, List.setIfInBounds_toArray, List.set_cons_zero, List.set_cons_succ, List.getElem_toArray, List.getElem_cons_zero, List.getElem_cons_succ])
        refine wpAnyX_take (i := 28) (v := undef) rfl (by kernel_rfl) (by kernel_rfl) (by kernel_rfl) (by kernel_rfl) (fun _ _ _ h => h) (Or.inr ⟨by rfl, rfl⟩) (by assumption) ?xr28w; (try simp only [Act.put, List.setIfInBounds_toArray, List.set_cons_zero, List.set_cons_succ, List.getElem_toArray, List.getElem_cons_zero, List.getElem_cons_succ])
        refine wpAnyX_take (i := 29) (v := undef) rfl (by kernel_rfl) (by kernel_rfl) (by kernel_rfl) (by kernel_rfl) (fun _ _ _ h => h) (Or.inr ⟨by rfl, rfl⟩) (by assumption) ?xr29w; (try simp only [Act.put, List.setIfInBounds_toArray, List.set_cons_zero, List.set_cons_succ, List.getElem_toArray, List.getElem_cons_zero, List.getElem_cons_succ])
        refine wpAnyX_take (i := 30) (v := undef) rfl (by kernel_rfl) (by kernel_rfl) (by kernel_rfl) (by kernel_rfl) (fun _ _ _ h => h) (Or.inr ⟨by rfl, rfl⟩) (by assumption) ?xr30w; (try simp only [Act.put, List.setIfInBounds_toArray, List.set_cons_zero, List.set_cons_succ, List.getElem_toArray, List.getElem_cons_zero, List.getElem_cons_succ])
        refine wpAnyX_tk (i := 31) (v := ?xv31w) rfl (Or.inl ⟨by rfl, ?xh31w⟩) ?xr31w; (case xh31w => (intro w hSw; (try dsimp only at hSw); go_simp; (try with_reducible rfl))); (try simp only [Act.put, List.setIfInBounds_toArray, List.set_cons_zero, List.set_cons_succ, List.getElem_toArray, List.getElem_cons_zero, List.getElem_cons_succ])
        refine wpAnyX_done (by kernel_rfl) ?_ _
        go_wp2_with fail
        go_meet
        exact ⟨by simp [hcv], below_by⟩
    case rest =>
     obtain ⟨rfl, hbw⟩ := hcut
     have X2 := X.below' hbw; have T2 := T1.below' hbw
     have q2 : Below w.heap.size w wc := bstep q (bstep bX hbw)
     have hx2 := X2.lt
     have ht2 := T2.lt
     clear X T1 HCK hbw bX T HOB HOB1
     (try clear cX2 fX2); have cX2 := X2.cell; have fX2 := X2.frozen; (try clear cT2 fT2); have cT2 := T2.cell; have fT2 := T2.frozen
     cases hb1 : (decide (xk.size < 1) || decide (12 < xk.size) || cv != 0 || ob) with
     | true =>
      have hD : CS = 13 := by rw [HCS.out]; exact HSB.out (by rw [HBAD.out, hb1]; rfl)
      clear HNB HSB HBAD HCS
      subst hD
      go_wp2_with fail
      go_ret
      exact ⟨rfl, q2⟩
     | false =>
      have hbd := HBAD.out
      rw [hb1, Bool.false_or] at hbd
      by_cases ht0 : xt = 0
      ·have hf : entBad now l k = false := by rw [hbd]; simp [ht0]
       have HQ2 : Hid (∀ j < k + 1, entBad now l j = false) := hide fun j hj => HNB.out j hj hf
       clear hbd hf HBAD HSB HNB HQ
       subst ht0
       go_wp2_with fail
       go_roundw
       case rel => exact ⟨k + 1, by omega, by go_num, T2, HQ2, q2⟩
       case measure => simp [intOf]; omega
      ·have ht0' : (xt == 0) = false := by rw [beq_eq_false_iff_ne]; exact ht0
       by_cases ht1 : xt ≤ now
       ·have hD : CS = 13 := by rw [HCS.out]; exact HSB.out (by rw [hbd]; simp [ht0, ht1])
        clear hbd HNB HSB HBAD HCS
        subst hD
        go_wp2_with fail
        go_ret
        exact ⟨rfl, q2⟩
       ·by_cases ht2 : 1073741824 < xt
        ·have hD : CS = 13 := by rw [HCS.out]; exact HSB.out (by rw [hbd]; simp [ht0, ht2])
         clear hbd HNB HSB HBAD HCS
         subst hD
         go_wp2_with fail
         go_ret
         exact ⟨rfl, q2⟩
        ·have hf : entBad now l k = false := by rw [hbd]; simp [ht0]; omega
         have HQ2 : Hid (∀ j < k + 1, entBad now l j = false) := hide fun j hj => HNB.out j hj hf
         clear hbd hf HBAD HSB HNB HQ
         go_wp2_with fail
         go_roundw
         case rel => exact ⟨k + 1, by omega, by go_num, T2, HQ2, q2⟩
         case measure => simp [intOf]; omega
   ·obtain rfl : k = n := by omega
    have hD : CS = 0 := by rw [HCS.out]; exact store_good H0.out (fun j hj => HQ.out j (by have := HLN.out; omega))
    clear HCS HQ
    subst hD
    go_wp2_with fail
    go_ret
    exact ⟨rfl, q⟩
end Go.Proofs.YtgpkgegpcgiokaaGreatDoor

