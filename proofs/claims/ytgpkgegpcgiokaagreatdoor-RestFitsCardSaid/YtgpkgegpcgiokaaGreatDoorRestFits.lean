/- rostrumkeep.RestFits returns true for every input; client.nothing holds what its initialiser lays. -/
import Derived.Test.YtgpkgegpcgiokaaGreatDoorRest
import Derived.Test.YtgpkgegpcgiokaaGreatDoorLaidN
namespace Go.Proofs.YtgpkgegpcgiokaaGreatDoor
set_option linter.all false
open Go.ChangeShapes Go.WideShapes Go.ChangeAt Go.RowKit
theorem cs_ok {m : Mach} (hok : MachOk m) (i t : Int) (i0 : 1 ≤ i) (i1 : i ≤ 100) (t0 : 1 ≤ t) (t1 : t ≤ 100) (A B : Option Addr) (na ca nb cb : Nat) (w : World) (hE : St w A na ca m.ents) (hC : Ci w B nb cb m.clis) :
    Calls Tryz.prog 36 #[.agg #[.int .i64 i, .int .i64 t, .int .i64 m.now, .slice A na ca, .int .i64 m.next, .slice B nb cb]] w fun e w' => e = .returned (.int .i64 0) ∧ Below w.heap.size w w' := by
  have hr : csM i t m = 0 := by
    unfold csM numberOk
    rw [if_pos (by simp; omega)]
    exact ok_mach hok
  have := CheckSnap_any i t m A B na ca nb cb w hE.sl hC.sl (by have := hE.sl.len; have := hok.sto.few; omega) (by have := hC.sl.len; have := hok.few; omega) (fun x hx => by obtain ⟨a, b, d⟩ := hok.sto.small x hx; exact ⟨by omega, by omega, by omega⟩) (fun x hx => by have := rep_to (hok.cli x hx).rep; exact ⟨by have := this.text; omega, by have := this.few; omega⟩)
  rw [hr] at this
  exact this
theorem sameItems_self (A B : Option Addr) (n m c d : Nat) (a : List Itm) (w : World) (ha : Sl w 10 A n c (itemRows a)) (hb : Sl w 10 B m d (itemRows a)) :
    Calls Tryz.prog 42 #[.slice A n c, .slice B m d] w fun e w' => e = .returned (.bool true) ∧ Below w.heap.size w w' := by
  refine (sameItems_any A B n m c d a a w ha hb).mono ?_
  rintro e w' ⟨rfl, h⟩
  exact ⟨by simp, h⟩
set_option maxRecDepth 100000 in
set_option maxHeartbeats 16000000 in
theorem restFits_walk (A : Option Addr) (n c : Nat) (l : List DeedD) (base at_ term : Int) (A' : Option Addr) (n' c' : Nat) (l' : List DeedD) (w : World) (hS : Sl w 8 A n c (deedRows l)) (hd : ∀ d ∈ l, d.ok) (hS' : Sl w 8 A' n' c' (deedRows l')) (hd' : ∀ d ∈ l', d.ok) (hb : I64 base) (hat : I64 at_) (htm : I64 term) (hN : Noth w) :
    Calls Tryz.prog 12 #[.slice A n c, .int .i64 base, .int .i64 at_, .int .i64 term, .slice A' n' c'] w fun e w' => e = .returned (.bool true) ∧ Below w.heap.size w w' := by
  obtain ⟨b, bt, L, hG, -, -, -, HL⟩ := Log_good A n c l base hb hd
  clear hd
  obtain ⟨g1_, g2_, g3_, g4_, g5_, g6_⟩ := hG
  have hF := fun w' (h : Below w.heap.size w w') => snap_any A' n' c' l' at_ term w' (hS'.below h) hd' (hN.bl h) hat htm
  have hok := (machOf_inv (l'.take 8)).ok
  have p0 := picked_lo at_ 40 (by omega)
  have p1 := picked_hi at_ 40 (by omega)
  have r0 := picked_lo term 5 (by omega)
  have r1 := picked_hi term 5 (by omega)
  generalize machOf (l'.take 8) = m at *
  obtain ⟨si, hsi⟩ : ∃ si, si = 1 + picked at_ 40 := ⟨_, rfl⟩
  obtain ⟨st, hst⟩ : ∃ st, st = 1 + picked term 5 := ⟨_, rfl⟩
  rw [← hsi, ← hst] at hF
  have si0 : 1 ≤ si := by omega
  have si1 : si ≤ 40 := by omega
  have st0 : 1 ≤ st := by omega
  have st1 : st ≤ 5 := by omega
  clear hsi hst p0 p1 r0 r1 hat htm hb hd'
  have hcs := fun A B na ca nb cb w hE hC => cs_ok hok si st si0 (by omega) st0 (by omega) A B na ca nb cb w hE hC
  have hR := fun A1 A2 B2 c1 n2 c2 k2 d2 w hS hC => Rest_any b bt si st m.now m.next A1 A2 B2 L.length c1 n2 c2 k2 d2 L w ⟨by omega, by omega⟩ ⟨by omega, by omega⟩ (by omega) (by omega) hS g1_ hC
  have hR0 := fun A1 c1 w hS => Rest_none b bt A1 L.length c1 L w ⟨by omega, by omega⟩ ⟨by omega, by omega⟩ hS g1_
  have hT := fun A1 c1 w hS => Term_any b bt A1 L.length c1 L si w ⟨by omega, by omega⟩ ⟨by omega, by omega⟩ ⟨by omega, by omega⟩ hS g1_
  have hgd := rest_good (si := si) (st := st) g1_ si0 (by omega) st0 (by omega)
  have hin := term_in (b := b) (bt := bt) (L := L) (si := si) (st := st) (by omega) (by omega)
  have hCk := fun A3 n3 c3 w hS => Check_any si st A3 n3 c3 (restL b bt L si st) w ⟨by omega, by omega⟩ ⟨by omega, by omega⟩ hS
  rw [hgd] at hCk
  obtain ⟨RL, hRL⟩ : ∃ RL, RL = restL b bt L si st := ⟨_, rfl⟩
  rw [← hRL] at hR hCk
  unfold restL at hRL
  generalize termE b bt L si = te at *
  obtain ⟨tt, te⟩ := te
  clear hgd g1_ hok
  obtain ⟨now, ents, next, clis⟩ := m
  simp only at hcs hR
  have HF := hide hF; have HCS := hide hcs; have HR := hide hR; have HR0 := hide hR0; have HT := hide hT; have HIN := hide hin; have HCK := hide hCk; have HRL := hide hRL
  clear hF hcs hR hR0 hT hin hCk hRL hS'
  go_enter Tryz.func12, Tryz.ntmps12
  go_wp2_with fail
  refine (HL.out _ hS).mono ?_
  rintro e w1 ⟨A1, c1, rfl, X1, hb1⟩
  clear HL
  have D1 := Blk.new w1 73 #[.int .i64 b, .int .i64 bt, .slice A1 L.length c1]
  replace X1 := X1.alloc (.cells #[.int .i64 b, .int .i64 bt, .slice A1 L.length c1] 73)
  have q : Below w.heap.size w (w1.alloc (.cells #[.int .i64 b, .int .i64 bt, .slice A1 L.length c1] 73)) := below_by
  clear hb1
  go_wp2_with fail
  refine (HF.out _ q).mono ?_
  rintro e w2 ⟨A2, n2, c2, B2, k2, d2, rfl, S2, C2, hb2⟩
  simp only at S2 C2
  replace X1 := X1.below hb2
  replace D1 := D1.bl hb2
  replace q := bstep q hb2
  obtain ⟨g1, hg1⟩ : ∃ g, g = w1.heap.size := ⟨_, rfl⟩
  rw [← hg1] at D1 ⊢
  clear hb2 HF hg1
  have D2 := Blk.new w2 63 #[.int .i64 si, .int .i64 st, .int .i64 now, .slice A2 n2 c2, .int .i64 next, .slice B2 k2 d2]
  replace X1 := X1.alloc (.cells #[.int .i64 si, .int .i64 st, .int .i64 now, .slice A2 n2 c2, .int .i64 next, .slice B2 k2 d2] 63)
  replace S2 := S2.al (.cells #[.int .i64 si, .int .i64 st, .int .i64 now, .slice A2 n2 c2, .int .i64 next, .slice B2 k2 d2] 63); replace C2 := C2.al (.cells #[.int .i64 si, .int .i64 st, .int .i64 now, .slice A2 n2 c2, .int .i64 next, .slice B2 k2 d2] 63); replace D1 := D1.al (.cells #[.int .i64 si, .int .i64 st, .int .i64 now, .slice A2 n2 c2, .int .i64 next, .slice B2 k2 d2] 63)
  replace q : Below w.heap.size w (w2.alloc (.cells #[.int .i64 si, .int .i64 st, .int .i64 now, .slice A2 n2 c2, .int .i64 next, .slice B2 k2 d2] 63)) := below_by
  (try clear cD1 fD1); have cD1 := D1.cell; have fD1 := D1.frozen; (try clear cD2 fD2); have cD2 := D2.cell; have fD2 := D2.frozen
  go_wp2_with fail
  refine (HR.out _ _ _ _ _ _ _ _ _ X1 (fun w' h => HCS.out _ _ _ _ _ _ _ (S2.bl h) (C2.bl h))).mono ?_
  rintro e w3 ⟨A3, n3, c3, rfl, ⟨B3, hown⟩, hb3⟩
  replace X1 := X1.below hb3
  replace D1 := D1.bl hb3; replace D2 := D2.bl hb3
  replace q := bstep q hb3
  obtain ⟨g2, hg2⟩ : ∃ g, g = w2.heap.size := ⟨_, rfl⟩
  rw [← hg2] at D2 ⊢
  clear hb3 HR HCS S2 C2 cD1 fD1 cD2 fD2 hg2
  have X3 := hown.sl'
  clear hown
  have D3 := Blk.new w3 73 #[.int .i64 si, .int .i64 st, .slice A3 n3 c3]
  replace X1 := X1.alloc (.cells #[.int .i64 si, .int .i64 st, .slice A3 n3 c3] 73)
  replace X3 := X3.alloc (.cells #[.int .i64 si, .int .i64 st, .slice A3 n3 c3] 73)
  replace D1 := D1.al (.cells #[.int .i64 si, .int .i64 st, .slice A3 n3 c3] 73); replace D2 := D2.al (.cells #[.int .i64 si, .int .i64 st, .slice A3 n3 c3] 73)
  replace q : Below w.heap.size w (w3.alloc (.cells #[.int .i64 si, .int .i64 st, .slice A3 n3 c3] 73)) := below_by
  (try clear cD1 fD1); have cD1 := D1.cell; have fD1 := D1.frozen; (try clear cD2 fD2); have cD2 := D2.cell; have fD2 := D2.frozen
  go_wp2_with fail
  refine (HT.out _ _ _ X1).mono ?_
  rintro e w4 ⟨rfl, hb4⟩
  replace X1 := X1.below hb4
  replace X3 := X3.below hb4
  replace D1 := D1.bl hb4; replace D2 := D2.bl hb4; replace D3 := D3.bl hb4
  replace q := bstep q hb4
  obtain ⟨g3, hg3⟩ : ∃ g, g = w3.heap.size := ⟨_, rfl⟩
  rw [← hg3] at D3 ⊢
  clear hb4 HT cD1 fD1 cD2 fD2 hg3
  (try clear cD1 fD1); have cD1 := D1.cell; have fD1 := D1.frozen; (try clear cD2 fD2); have cD2 := D2.cell; have fD2 := D2.frozen
  go_wp2_with fail
  refine (HR0.out _ _ _ X1).mono ?_
  rintro e w5 ⟨rfl, hb5⟩
  replace X1 := X1.below hb5
  replace X3 := X3.below hb5
  replace D1 := D1.bl hb5; replace D2 := D2.bl hb5; replace D3 := D3.bl hb5
  replace q := bstep q hb5
  clear hb5 HR0 cD1 fD1 cD2 fD2
  replace X1 := X1.alloc (.cells #[.int .i64 0, .int .i64 0, .slice none 0 0] 73)
  replace X3 := X3.alloc (.cells #[.int .i64 0, .int .i64 0, .slice none 0 0] 73)
  replace D1 := D1.al (.cells #[.int .i64 0, .int .i64 0, .slice none 0 0] 73); replace D2 := D2.al (.cells #[.int .i64 0, .int .i64 0, .slice none 0 0] 73); replace D3 := D3.al (.cells #[.int .i64 0, .int .i64 0, .slice none 0 0] 73)
  replace q : Below w.heap.size w (w5.alloc (.cells #[.int .i64 0, .int .i64 0, .slice none 0 0] 73)) := below_by
  have l1 := D1.lt; have l2 := D2.lt; have l3 := D3.lt
  (try clear cD1 fD1); have cD1 := D1.cell; have fD1 := D1.frozen; (try clear cD2 fD2); have cD2 := D2.cell; have fD2 := D2.frozen; (try clear cD3 fD3); have cD3 := D3.cell; have fD3 := D3.frozen
  go_wp2_with fail
  refine (HCK.out _ _ _ _ X3).mono ?_
  rintro e w6 ⟨rfl, hb6⟩
  replace X1 := X1.below hb6
  replace X3 := X3.below hb6
  replace D1 := D1.bl hb6; replace D2 := D2.bl hb6; replace D3 := D3.bl hb6
  replace q := bstep q hb6
  clear hb6 HCK cD1 fD1 cD2 fD2 cD3 fD3 l1 l2 l3
  have l1 := D1.lt; have l2 := D2.lt; have l3 := D3.lt
  (try clear cD1 fD1); have cD1 := D1.cell; have fD1 := D1.frozen; (try clear cD2 fD2); have cD2 := D2.cell; have fD2 := D2.frozen; (try clear cD3 fD3); have cD3 := D3.cell; have fD3 := D3.frozen
  by_cases hte : te = 0 ∧ tt = st
  · obtain ⟨rfl, rfl⟩ := hte
    obtain ⟨k, hk, rfl, -⟩ := HIN.out rfl
    have hrl : RL = L.drop k := by rw [HRL.out, if_pos rfl, show (b + (k : Int) - b).toNat = k by omega]
    subst hrl
    clear HRL HIN
    have hnc := X1.nc
    have hcm := X1.cm
    unfold maxLen at hcm
    have X4 := X1.drop k hk c1 (Nat.le_refl _) X1.nc
    rw [itemRows_drop] at X4
    have wsub : IntKind.i64.wrap (b + (k : Int) - b) = (k : Int) := by rw [show b + (k : Int) - b = (k : Int) by omega]; exact IntWalk.i64_in _ (by omega)
    by_cases hck : c1 = k
    · subst hck
      unfold cutA at X4
      have e0 : L.length - c1 = 0 := by omega
      rw [if_pos rfl, Nat.sub_self, e0] at X4
      clear e0
      have HSI := hide (fun w' (h : Below w6.heap.size w6 w') => sameItems_self _ _ _ _ _ _ _ w' (X3.below h) (X4.below h))
      have hsG : ∀ w', Below w6.heap.size w6 w' → (w'.cell? ⟨g3, 2, none⟩ = some (.slice A3 n3 c3) ∧ w'.cell? ⟨g1, 2, none⟩ = some (.slice A1 L.length c1) ∧ w'.cell? ⟨g2, 0, none⟩ = some (.int .i64 (b + c1)) ∧ w'.cell? ⟨g1, 0, none⟩ = some (.int .i64 b)) := fun w' q => ⟨(D3.below' q).cell 2, (D1.below' q).cell 2, (D2.below' q).cell 0, (D1.below' q).cell 0⟩
      clear X1 X3 X4
      go_wp2_with fail
      refine wp_region_x (l := []) (S := fun w' => w'.cell? ⟨g3, 2, none⟩ = some (.slice A3 n3 c3) ∧ w'.cell? ⟨g1, 2, none⟩ = some (.slice A1 L.length c1) ∧ w'.cell? ⟨g2, 0, none⟩ = some (.int .i64 (b + c1)) ∧ w'.cell? ⟨g1, 0, none⟩ = some (.int .i64 b)) (by kernel_rfl) (hsG _ (Below.refl _ w6).drew) (fun hS => ?_)
      have HSG := hide hsG
      clear hsG D1 D2 D3 cD1 fD1 cD2 fD2 cD3 fD3
      refine wpAnyX_tk (i := 0) (v := ?xv0y) rfl (Or.inl ⟨by rfl, ?xh0y⟩) ?xr0y; (case xh0y => (intro w hSw; (try dsimp only at hSw); go_simp; (try with_reducible rfl))); (try simp only [Act.put, List.setIfInBounds_toArray, List.set_cons_zero, List.set_cons_succ, List.getElem_toArray, List.getElem_cons_zero, List.getElem_cons_succ])
      refine wpAnyX_tk (i := 1) (v := ?xv1y) rfl (Or.inl ⟨by rfl, ?xh1y⟩) ?xr1y; (case xh1y => (intro w hSw; (try dsimp only at hSw); go_simp; (try with_reducible rfl))); (try simp only [Act.put, List.setIfInBounds_toArray, List.set_cons_zero, List.set_cons_succ, List.getElem_toArray, List.getElem_cons_zero, List.getElem_cons_succ])
      refine wpAnyX_tk (i := 2) (v := ?xv2y) rfl (Or.inl ⟨by rfl, ?xh2y⟩) ?xr2y; (case xh2y => (intro w hSw; (try dsimp only at hSw); go_simp; (try with_reducible rfl))); (try simp only [Act.put, List.setIfInBounds_toArray, List.set_cons_zero, List.set_cons_succ, List.getElem_toArray, List.getElem_cons_zero, List.getElem_cons_succ])
      refine wpAnyX_tk (i := 3) (v := ?xv3y) rfl (Or.inl ⟨by rfl, ?xh3y⟩) ?xr3y; (case xh3y => (intro w hSw; (try dsimp only at hSw); go_simp; (try with_reducible rfl))); (try simp only [Act.put, List.setIfInBounds_toArray, List.set_cons_zero, List.set_cons_succ, List.getElem_toArray, List.getElem_cons_zero, List.getElem_cons_succ])
      refine wpAnyX_tk (i := 4) (v := ?xv4y) rfl (Or.inl ⟨by rfl, ?xh4y⟩) ?xr4y; (case xh4y => (intro w hSw; (try dsimp only at hSw); go_simp; (try with_reducible rfl))); (try simp only [Act.put, List.setIfInBounds_toArray, List.set_cons_zero, List.set_cons_succ, List.getElem_toArray, List.getElem_cons_zero, List.getElem_cons_succ])
      refine wpAnyX_tk (i := 5) (v := ?xv5y) rfl (Or.inl ⟨by rfl, ?xh5y⟩) ?xr5y; (case xh5y => (intro w hSw; (try dsimp only at hSw); go_simp; (try with_reducible rfl))); (try simp only [Act.put, List.setIfInBounds_toArray, List.set_cons_zero, List.set_cons_succ, List.getElem_toArray, List.getElem_cons_zero, List.getElem_cons_succ])
      refine wpAnyX_tk (i := 6) (v := ?xv6y) rfl (Or.inl ⟨by rfl, ?xh6y⟩) ?xr6y; (case xh6y => (intro w hSw; (try dsimp only at hSw); go_simp; (try with_reducible rfl))); (try simp only [Act.put, List.setIfInBounds_toArray, List.set_cons_zero, List.set_cons_succ, List.getElem_toArray, List.getElem_cons_zero, List.getElem_cons_succ])
      refine wpAnyX_tk (i := 7) (v := ?xv7y) rfl (Or.inl ⟨by rfl, ?xh7y⟩) ?xr7y; (case xh7y => (intro w hSw; (try dsimp only at hSw); go_simp; (try with_reducible rfl))); (try simp only [Act.put, List.setIfInBounds_toArray, List.set_cons_zero, List.set_cons_succ, List.getElem_toArray, List.getElem_cons_zero, List.getElem_cons_succ])
      refine wpAnyX_tk (i := 8) (v := ?xv8y) rfl (Or.inl ⟨by rfl, ?xh8y⟩) ?xr8y; (case xh8y => (intro w hSw; (try dsimp only at hSw); go_simp; (try with_reducible rfl))); (try simp only [Act.put, List.setIfInBounds_toArray, List.set_cons_zero, List.set_cons_succ, List.getElem_toArray, List.getElem_cons_zero, List.getElem_cons_succ])
      refine wpAnyX_tk (i := 9) (v := ?xv9y) rfl (Or.inl ⟨by rfl, ?xh9y⟩) ?xr9y; (case xh9y => (intro w hSw; (try dsimp only at hSw); go_simp; (try with_reducible rfl))); (try simp only [Act.put, List.setIfInBounds_toArray, List.set_cons_zero, List.set_cons_succ, List.getElem_toArray, List.getElem_cons_zero, List.getElem_cons_succ])
      refine wpAnyX_one (i := 10) (by kernel_rfl) rfl (by rfl) (fun K hK => ?_); (try simp only [List.getElem_toArray, List.getElem_cons_zero, List.getElem_cons_succ])
      go_wp2_with fail
      refine (HSI.out _ ((Below.refl _ w6).drew)).mono ?_
      rintro e w7 ⟨rfl, hb7⟩
      go_wp2_with fail
      have q7 : Below w6.heap.size w6 w7 := Below.trans (Below.refl _ w6).drew hb7
      refine hK.out _ _ (Or.inr (HSG.out _ q7)) (fun hS => ?_)
      replace hS := hS.resolve_left (by decide)
      clear hK K HSI
      refine wpAnyX_pure (i := 11) (v := ?xv11y) rfl (by kernel_rfl) (Or.inl ⟨by rfl, ?xh11y⟩) (Or.inr (by assumption)) ?xr11y; (case xh11y => (intro w; go_simp; (try with_reducible rfl))); (try simp only [Act.put, List.setIfInBounds_toArray, List.set_cons_zero, List.set_cons_succ, List.getElem_toArray, List.getElem_cons_zero, List.getElem_cons_succ])
      clear hS
      refine wpAnyX_done (by kernel_rfl) ?_ _
      have qe := bstep q q7
      go_wp2_with fail
      go_ret
      exact ⟨rfl, qe⟩
    · unfold cutA at X4
      rw [if_neg hck] at X4
      have HSI := hide (fun w' (h : Below w6.heap.size w6 w') => sameItems_self _ _ _ _ _ _ _ w' (X3.below h) (X4.below h))
      have hsG : ∀ w', Below w6.heap.size w6 w' → (w'.cell? ⟨g3, 2, none⟩ = some (.slice A3 n3 c3) ∧ w'.cell? ⟨g1, 2, none⟩ = some (.slice A1 L.length c1) ∧ w'.cell? ⟨g2, 0, none⟩ = some (.int .i64 (b + k)) ∧ w'.cell? ⟨g1, 0, none⟩ = some (.int .i64 b)) := fun w' q => ⟨(D3.below' q).cell 2, (D1.below' q).cell 2, (D2.below' q).cell 0, (D1.below' q).cell 0⟩
      clear X1 X3 X4
      go_wp2_with fail
      refine wp_region_x (l := []) (S := fun w' => w'.cell? ⟨g3, 2, none⟩ = some (.slice A3 n3 c3) ∧ w'.cell? ⟨g1, 2, none⟩ = some (.slice A1 L.length c1) ∧ w'.cell? ⟨g2, 0, none⟩ = some (.int .i64 (b + k)) ∧ w'.cell? ⟨g1, 0, none⟩ = some (.int .i64 b)) (by kernel_rfl) (hsG _ (Below.refl _ w6).drew) (fun hS => ?_)
      have HSG := hide hsG
      clear hsG D1 D2 D3 cD1 fD1 cD2 fD2 cD3 fD3
      refine wpAnyX_tk (i := 0) (v := ?xv0z) rfl (Or.inl ⟨by rfl, ?xh0z⟩) ?xr0z; (case xh0z => (intro w hSw; (try dsimp only at hSw); go_simp; (try with_reducible rfl))); (try simp only [Act.put, List.setIfInBounds_toArray, List.set_cons_zero, List.set_cons_succ, List.getElem_toArray, List.getElem_cons_zero, List.getElem_cons_succ])
      refine wpAnyX_tk (i := 1) (v := ?xv1z) rfl (Or.inl ⟨by rfl, ?xh1z⟩) ?xr1z; (case xh1z => (intro w hSw; (try dsimp only at hSw); go_simp; (try with_reducible rfl))); (try simp only [Act.put, List.setIfInBounds_toArray, List.set_cons_zero, List.set_cons_succ, List.getElem_toArray, List.getElem_cons_zero, List.getElem_cons_succ])
      refine wpAnyX_tk (i := 2) (v := ?xv2z) rfl (Or.inl ⟨by rfl, ?xh2z⟩) ?xr2z; (case xh2z => (intro w hSw; (try dsimp only at hSw); go_simp; (try with_reducible rfl))); (try simp only [Act.put, List.setIfInBounds_toArray, List.set_cons_zero, List.set_cons_succ, List.getElem_toArray, List.getElem_cons_zero, List.getElem_cons_succ])
      refine wpAnyX_tk (i := 3) (v := ?xv3z) rfl (Or.inl ⟨by rfl, ?xh3z⟩) ?xr3z; (case xh3z => (intro w hSw; (try dsimp only at hSw); go_simp; (try with_reducible rfl))); (try simp only [Act.put, List.setIfInBounds_toArray, List.set_cons_zero, List.set_cons_succ, List.getElem_toArray, List.getElem_cons_zero, List.getElem_cons_succ])
      refine wpAnyX_tk (i := 4) (v := ?xv4z) rfl (Or.inl ⟨by rfl, ?xh4z⟩) ?xr4z; (case xh4z => (intro w hSw; (try dsimp only at hSw); go_simp; (try with_reducible rfl))); (try simp only [Act.put, List.setIfInBounds_toArray, List.set_cons_zero, List.set_cons_succ, List.getElem_toArray, List.getElem_cons_zero, List.getElem_cons_succ])
      refine wpAnyX_tk (i := 5) (v := ?xv5z) rfl (Or.inl ⟨by rfl, ?xh5z⟩) ?xr5z; (case xh5z => (intro w hSw; (try dsimp only at hSw); go_simp; (try with_reducible rfl))); (try simp only [Act.put, List.setIfInBounds_toArray, List.set_cons_zero, List.set_cons_succ, List.getElem_toArray, List.getElem_cons_zero, List.getElem_cons_succ])
      refine wpAnyX_tk (i := 6) (v := ?xv6z) rfl (Or.inl ⟨by rfl, ?xh6z⟩) ?xr6z; (case xh6z => (intro w hSw; (try dsimp only at hSw); go_simp; (try with_reducible rfl))); (try simp only [Act.put, List.setIfInBounds_toArray, List.set_cons_zero, List.set_cons_succ, List.getElem_toArray, List.getElem_cons_zero, List.getElem_cons_succ])
      refine wpAnyX_tk (i := 7) (v := ?xv7z) rfl (Or.inl ⟨by rfl, ?xh7z⟩) ?xr7z; (case xh7z => (intro w hSw; (try dsimp only at hSw); go_simp; (try with_reducible rfl))); (try simp only [Act.put, List.setIfInBounds_toArray, List.set_cons_zero, List.set_cons_succ, List.getElem_toArray, List.getElem_cons_zero, List.getElem_cons_succ])
      refine wpAnyX_tk (i := 8) (v := ?xv8z) rfl (Or.inl ⟨by rfl, ?xh8z⟩) ?xr8z; (case xh8z => (intro w hSw; (try dsimp only at hSw); go_simp; (try with_reducible rfl))); (try simp only [Act.put, List.setIfInBounds_toArray, List.set_cons_zero, List.set_cons_succ, List.getElem_toArray, List.getElem_cons_zero, List.getElem_cons_succ])
      refine wpAnyX_tk (i := 9) (v := ?xv9z) rfl (Or.inl ⟨by rfl, ?xh9z⟩) ?xr9z; (case xh9z => (intro w hSw; (try dsimp only at hSw); go_simp; (try with_reducible rfl))); (try simp only [Act.put, List.setIfInBounds_toArray, List.set_cons_zero, List.set_cons_succ, List.getElem_toArray, List.getElem_cons_zero, List.getElem_cons_succ])
      refine wpAnyX_one (i := 10) (by kernel_rfl) rfl (by rfl) (fun K hK => ?_); (try simp only [List.getElem_toArray, List.getElem_cons_zero, List.getElem_cons_succ])
      go_wp2_with fail
      refine (HSI.out _ ((Below.refl _ w6).drew)).mono ?_
      rintro e w7 ⟨rfl, hb7⟩
      go_wp2_with fail
      have q7 : Below w6.heap.size w6 w7 := Below.trans (Below.refl _ w6).drew hb7
      refine hK.out _ _ (Or.inr (HSG.out _ q7)) (fun hS => ?_)
      replace hS := hS.resolve_left (by decide)
      clear hK K HSI
      refine wpAnyX_pure (i := 11) (v := ?xv11z) rfl (by kernel_rfl) (Or.inl ⟨by rfl, ?xh11z⟩) (Or.inr (by assumption)) ?xr11z; (case xh11z => (intro w; go_simp; (try with_reducible rfl))); (try simp only [Act.put, List.setIfInBounds_toArray, List.set_cons_zero, List.set_cons_succ, List.getElem_toArray, List.getElem_cons_zero, List.getElem_cons_succ])
      clear hS
      refine wpAnyX_done (by kernel_rfl) ?_ _
      have qe := bstep q q7
      go_wp2_with fail
      go_ret
      exact ⟨rfl, qe⟩
  · have hne : (tt, te) ≠ (st, 0) := fun h => hte (by injection h with a b; exact ⟨b, a⟩)
    have hrl : RL = [] := by rw [HRL.out, if_neg hne]
    subst hrl
    obtain rfl : n3 = 0 := by have := rows_len X3; simpa using this.symm
    clear HRL HIN hne X1 X3
    by_cases h0 : te = 0
    · subst h0
      have h1 : (tt == st) = false := by rw [beq_eq_false_iff_ne]; exact fun h => hte ⟨rfl, h⟩
      have h2 : (tt != st) = true := by rw [bne_iff_ne]; exact fun h => hte ⟨rfl, h⟩
      clear hte
      go_wp2_with fail
      go_ret
      exact ⟨rfl, q⟩
    · have h1 : (te == 0) = false := by rw [beq_eq_false_iff_ne]; exact h0
      have h2 : (te != 0) = true := by rw [bne_iff_ne]; exact h0
      clear hte
      go_wp2_with fail
      go_ret
      exact ⟨rfl, q⟩
theorem trodAll_five {H : Type} {enc : TypeId × Value → H} {P : Program} {w : World} {base : Nat} {spare : Nat → Bool} {held : Bool} {t0 t1 t2 t3 t4 : TypeId} {args : Array Value} {ds : List (DataW H)} {ps : List MemPlace} (h : DataW.TrodAll enc P w base spare held [t0, t1, t2, t3, t4] args.toList ds ps) :
    ∃ v0 v1 v2 v3 v4 d0 d1 d2 d3 d4 p0 p1 p2 p3 p4, args = #[v0, v1, v2, v3, v4] ∧ ds = [d0, d1, d2, d3, d4] ∧ ps = p0 ++ p1 ++ p2 ++ p3 ++ p4 ∧ DataW.Trod enc P w base spare held t0 v0 d0 p0 ∧ DataW.Trod enc P w base spare held t1 v1 d1 p1 ∧ DataW.Trod enc P w base spare held t2 v2 d2 p2 ∧ DataW.Trod enc P w base spare held t3 v3 d3 p3 ∧ DataW.Trod enc P w base spare held t4 v4 d4 p4 := by
  obtain ⟨v0, vs, d0, ds, p0, q, hargs, rfl, rfl, h0, h⟩ := trodAll_cons h
  obtain ⟨v1, vs, d1, ds, p1, q, rfl, rfl, rfl, h1, h⟩ := trodAll_cons h
  obtain ⟨v2, vs, d2, ds, p2, q, rfl, rfl, rfl, h2, h⟩ := trodAll_cons h
  obtain ⟨v3, vs, d3, ds, p3, q, rfl, rfl, rfl, h3, h⟩ := trodAll_cons h
  obtain ⟨v4, vs, d4, ds, p4, q, rfl, rfl, rfl, h4, h⟩ := trodAll_cons h
  obtain ⟨rfl, rfl, rfl⟩ := trodAll_nil h
  exact ⟨v0, v1, v2, v3, v4, d0, d1, d2, d3, d4, p0, p1, p2, p3, p4, by cases args; simp_all, rfl, by simp, h0, h1, h2, h3, h4⟩
set_option maxRecDepth 100000 in
theorem restFits_lifted (os : Os) (started : os.Started) (H : Type) (enc : TypeId × Value → H) :
  ReturnsInHanded {} Tryz.checked os 12 .any (fun w args => (Rows.restFitsSpec.pre enc Tryz.prog Tryz.f12 [] false w args ∧ laidMetH Tryz.prog laidN w) ∧ sizedMet enc Tryz.prog Tryz.f12 (OpenSpec.ofChange Rows.restFitsSpec) false w args) (Rows.restFitsSpec.post enc Tryz.prog Tryz.f12 false true false false) := by
  refine returnsInHanded_of_change_and (C := Tryz.checked) (X := fun w _ => laidMetH Tryz.prog laidN w) (fun _ _ _ hh h => h.of_heap hh) Tryz.own started (by kernel_rfl) Tryz.func12 (ChangeSpec.witness_shaped (enc := enc) (C := Tryz.checked) (os := os) (X := fun w _ => laidMetH Tryz.prog laidN w) false (World.doorLaid Tryz.prog 14 os) #[.slice none 0 0, .int .i64 0, .int .i64 0, .int .i64 0, .slice none 0 0] 8 rfl (World.shaped_of_RefB (by kernel_rfl) (by kernel_rfl)) (by kernel_rfl) (by kernel_rfl) (by kernel_rfl) (door_met os _)) ?_
  intro W base args ds gs before hval0 hW hcnd hsz0 hL _
  have hsz : (DataW.weightsEach Tryz.prog (Tryz.f12.params.toList ++ Rows.restFitsSpec.plain.varTypes Tryz.prog) (ds ++ gs)).all (· ≤ reachBytes) = true := hsz0
  clear hsz0
  have hval : ∀ (j : Nat) t v, Tryz.f12.params[j]? = some t → args[j]? = some v → Value.okWide Tryz.prog W .any base t v := hval0
  have hW' := hW
  obtain ⟨p, q, hA0, hV, rfl, hfz, hnd⟩ := hW
  have hA : DataW.TrodAll enc Tryz.prog W 0 (fun _ => true) true Tryz.f12.params.toList args.toList ds p := hA0
  rw [Tryz.params12] at hA hval hsz
  obtain ⟨rfl, rfl⟩ := trodVars_none hV
  clear hA0 hval0 hcnd hV hfz hnd
  have hN := noth_of_laid hL
  obtain ⟨v0, v1, v2, v3, v4, d0, d1, d2, d3, d4, p0, p1, p2, p3, p4, rfl, rfl, rfl, h0, h1, h2, h3, h4⟩ := trodAll_five hA
  obtain ⟨A, n, c, l, rfl, hd, hS⟩ := open_deeds (hval 0 22 v0 rfl rfl) h0
  obtain ⟨k1, rfl, rfl, rfl, w1⟩ := open_int Tryz.underlying3 (hval 1 3 v1 rfl rfl) h1
  obtain ⟨k2, rfl, rfl, rfl, w2⟩ := open_int Tryz.underlying3 (hval 2 3 v2 rfl rfl) h2
  obtain ⟨k3, rfl, rfl, rfl, w3⟩ := open_int Tryz.underlying3 (hval 3 3 v3 rfl rfl) h3
  obtain ⟨A', n', c', l', rfl, hd', hS'⟩ := open_deeds (hval 4 22 v4 rfl rfl) h4
  refine (restFits_walk A n c l k1 k2 k3 A' n' c' l' W hS hd hS' hd' (i64_bounds w1) (i64_bounds w2) (i64_bounds w3) hN).mono fun e W' ⟨he, hb⟩ => ?_
  subst he
  exact ⟨_, rfl, post_law Tryz.laidOut hW' rfl (by kernel_rfl) rfl Tryz.underlying4 (fun _ => rfl) (fun _ => rfl) (fun _ => rfl) hb⟩
set_option maxRecDepth 100000 in
theorem restFits_f1 : (Rows.restFitsRow.inPlace == Tryz.pinned.checked.prog.inPlace 12) = true := by kernel_rfl
set_option maxRecDepth 100000 in
theorem restFits_f2 : (Rows.restFitsRow.unfollowed == Tryz.pinned.checked.prog.unfollowed 12) = true := by kernel_rfl
set_option maxRecDepth 100000 in
theorem restFits_f3 : (Rows.restFitsRow.recurses == Tryz.pinned.checked.prog.recurses 12) = true := by kernel_rfl
set_option maxRecDepth 100000 in
theorem restFits_f4 : (Rows.restFitsRow.named == Tryz.pinned.checked.prog.varsNamed 12) = true := by kernel_rfl
set_option maxRecDepth 100000 in
theorem restFits_facts : joinedFacts Tryz.pinned.checked.prog 12 Tryz.f12 Rows.restFitsSpec Rows.restFitsRow = true := by
  unfold joinedFacts
  rw [enterN, show (Rows.restFitsRow.lifted == Tryz.pinned.checked.prog.liftsFinal) = true from liftsN, laidN1, laidN2, heardN, show (Rows.restFitsRow.plainKeys == Tryz.pinned.checked.prog.plainKeys) = true from keysN, restFits_f1, restFits_f2, restFits_f3, restFits_f4]
  kernel_rfl
theorem restFits_row : Rows.RestFitsSaid := OpenClaim.holds_of_wide 12 Tryz.f12 rfl rfl rfl rfl rfl rfl rfl ⟨rfl, rfl, rfl, rfl, rfl⟩ rfl rfl rfl rfl rfl (by kernel_rfl) Tryz.func12 restFits_facts
  (of_decide_eq_true (by kernel_rfl)) (by unfold Func.isWrapper; first | (rw [if_pos (by decide +kernel)]; kernel_rfl) | (rw [if_neg (by decide +kernel)]; exact ⟨rfl, rfl⟩))
  (fun os started H enc _ => restFits_lifted os started H enc)
set_option maxRecDepth 100000 in
theorem restFits_goes : false = Rows.restFitsRow.goesBy Tryz.pinned.checked.prog := by kernel_rfl
set_option maxRecDepth 100000 in
theorem restFits_looks : false = Tryz.pinned.checked.prog.looks [] := by kernel_rfl
set_option maxRecDepth 100000 in
theorem restFits_holds : Rows.RestFitsCardSaid :=
  Claim7.holds_tied_plain_at .later [] [.data] true Rows.machineMayCard.stood.harness false
    restFits_row (fun _ h => by cases h) (by kernel_rfl) (fun _ h => by cases h) restFits_row_tie rfl ⟨rfl, rfl⟩ mainN rfl
    (fun f fn hf hfn => by
      obtain rfl : f = 12 := Option.some.inj ((show Tryz.prog.funcNamed "rostrum/rostrumkeep.RestFits" = some 12 by kernel_rfl).symm.trans hf) |>.symm
      obtain rfl : fn = Tryz.f12 := (Option.some.inj (Tryz.func12.symm.trans hfn)).symm
      exact ⟨restFits_looks, fun j t ht => by
        rw [Tryz.params12] at ht
        have hm := List.mem_of_getElem? (Array.getElem?_toList ▸ ht)
        simp only [List.mem_cons, List.not_mem_nil, or_false] at hm
        rcases hm with rfl | rfl | rfl | rfl | rfl <;> exact (show Tryz.prog.wantsStandIn _ = false by kernel_rfl)⟩)
    restFits_goes
#print axioms restFits_holds
end Go.Proofs.YtgpkgegpcgiokaaGreatDoor
