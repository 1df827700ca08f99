/- Items: rostrumkeep.Item, wire.CheckItem. -/
import Derived.Test.YtaldmianlmgloabCall
import Derived.Test.YtaldmianlmgloabArgs
import Derived.Deep.RegionHeld3
namespace Go.Proofs.Ytaldmianlmgloab
set_option linter.all false
open Go.RowKit
structure Itm where
  term : Int
  time : Int
  nop : Bool
  client : Int
  seq : Int
  cmd : Cmd
def Itm.cells (x : Itm) : List Value := [.int .i64 x.term, .int .i64 x.time, .bool x.nop, .int .i64 x.client, .int .i64 x.seq, .int .i64 x.cmd.kind, .string x.cmd.key, .string x.cmd.field, .string x.cmd.text, .int .i64 x.cmd.n]
def zeroCmd : Cmd := { kind := 0, key := emp, field := emp, text := emp, n := 0 }
def cmdR (r : RawD) : Cmd := cmdOf r.kind r.key r.field r.n r.text
def itemOf (d : DeedD) (term time : Int) : Itm :=
  if (picked d.client 5 == 0) = true then { term := 1 + picked term 1000, time := picked time 100000, nop := true, client := 0, seq := 0, cmd := zeroCmd }
  else if (picked d.client 5 == 1) = true then { term := 1 + picked term 1000, time := picked time 100000, nop := false, client := 0, seq := 0, cmd := zeroCmd }
  else { term := 1 + picked term 1000, time := picked time 100000, nop := false, client := picked d.client 50 + 1, seq := 1 + picked d.off 100, cmd := cmdR d.raw }
set_option maxHeartbeats 2000000 in
theorem Item_any (d : DeedD) (hd : d.ok) (term time : Int) (w : World) (ht : I64 term) (hm : I64 time) :
    Calls Try.prog 23 #[.agg #[.int .i64 d.client, .int .i64 d.off, .int .i64 d.wait, .int .i64 d.raw.kind, .int .i64 d.raw.key, .int .i64 d.raw.field, .int .i64 d.raw.n, .string d.raw.text], .int .i64 term, .int .i64 time] w
      fun e w' => e = .returned (.agg (itemOf d term time).cells.toArray) ∧ Below w.heap.size w w' := by
  obtain ⟨⟨c1, c2⟩, ⟨o1, o2⟩, ⟨a1, a2⟩, ⟨k1, k2⟩, ⟨y1, y2⟩, ⟨f1, f2⟩, ⟨n1, n2⟩, hx⟩ := hd
  obtain ⟨client, off, wait, ⟨kind, key, field, n, text⟩⟩ := d
  simp only at c1 c2 o1 o2 a1 a2 k1 k2 y1 y2 f1 f2 n1 n2 hx
  obtain ⟨t1, t2⟩ := ht
  obtain ⟨m1, m2⟩ := hm
  have p1 := picked_lo term 1000 (by omega)
  have p2 := picked_hi term 1000 (by omega)
  have q1 := picked_lo client 50 (by omega)
  have q2 := picked_hi client 50 (by omega)
  have r1 := picked_lo off 100 (by omega)
  have r2 := picked_hi off 100 (by omega)
  have hC := fun w => Command_any kind key field n text w k1 k2 y1 y2 f1 f2 n1 n2 hx (picked kind 22) rfl (picked_lo _ _ (by omega)) (picked_hi _ _ (by omega))
  have hR : cmdR ⟨kind, key, field, n, text⟩ = cmdOf kind key field n text := rfl
  generalize cmdOf kind key field n text = cm at hC hR
  have HR := hide hR; clear hR
  obtain ⟨ck, cy, cf, ct, cn⟩ := cm
  simp only [cmdV] at hC
  have HC := hide hC; clear hC
  have hw1 : IntKind.i64.wrap (picked client 50 + 1) = picked client 50 + 1 := IntWalk.i64_in _ (by omega)
  have hw2 : IntKind.i64.wrap (1 + picked off 100) = 1 + picked off 100 := IntWalk.i64_in _ (by omega)
  by_cases h0 : (picked client 5 == 0) = true
  · go_enter Try.func23, Try.ntmps23
    go_wp2_with (go_at_call 13; refine (picked_any _ _ _ (by omega) (by omega) (by omega) (by omega)).mono ?_; rintro e w' ⟨rfl, rfl⟩)
    have hI : itemOf ⟨client, off, wait, ⟨kind, key, field, n, text⟩⟩ term time = { term := 1 + picked term 1000, time := picked time 100000, nop := true, client := 0, seq := 0, cmd := zeroCmd } := by simp [itemOf, h0]
    rw [hI]
    refine bodyPost_ret (v := .agg _) ?_ rfl ⟨rfl, (by repeat (first | (with_reducible exact Below.refl _ _) | (with_reducible assumption) | (with_reducible refine Below.drew ?_) | (with_reducible refine bdrewN ?_ _) | (with_reducible refine balloc ?_ _) | ((with_reducible refine bset ?_ ?_ _); rotate_left; (focus first | exact Nat.le_refl _ | (simp; done) | (simp; omega) | omega)) | (with_reducible refine bstep ?_ (by with_reducible assumption)) | (with_reducible refine Below.trans ?_ (by with_reducible assumption))))⟩
    simp [results, Try.results23, go_sem, Itm.cells, zeroCmd, emp]
  · have h0 : (picked client 5 == 0) = false := by simpa using h0
    by_cases h1 : (picked client 5 == 1) = true
    · go_enter Try.func23, Try.ntmps23
      go_wp2_with (go_at_call 13; refine (picked_any _ _ _ (by omega) (by omega) (by omega) (by omega)).mono ?_; rintro e w' ⟨rfl, rfl⟩)
      have hI : itemOf ⟨client, off, wait, ⟨kind, key, field, n, text⟩⟩ term time = { term := 1 + picked term 1000, time := picked time 100000, nop := false, client := 0, seq := 0, cmd := zeroCmd } := by simp [itemOf, h0, h1]
      rw [hI]
      refine bodyPost_ret (v := .agg _) ?_ rfl ⟨rfl, (by repeat (first | (with_reducible exact Below.refl _ _) | (with_reducible assumption) | (with_reducible refine Below.drew ?_) | (with_reducible refine bdrewN ?_ _) | (with_reducible refine balloc ?_ _) | ((with_reducible refine bset ?_ ?_ _); rotate_left; (focus first | exact Nat.le_refl _ | (simp; done) | (simp; omega) | omega)) | (with_reducible refine bstep ?_ (by with_reducible assumption)) | (with_reducible refine Below.trans ?_ (by with_reducible assumption))))⟩
      simp [results, Try.results23, go_sem, Itm.cells, zeroCmd, emp]
    · have h1 : (picked client 5 == 1) = false := by simpa using h1
      go_enter Try.func23, Try.ntmps23
      go_wp2_with (go_at_call 13; refine (picked_any _ _ _ (by omega) (by omega) (by omega) (by omega)).mono ?_; rintro e w' ⟨rfl, rfl⟩)
      go_region_held3 (fun w' => w'.cell? ⟨w.heap.size, 0, none⟩ = some (.int .i64 client) ∧ w'.cell? ⟨w.heap.size, 1, none⟩ = some (.int .i64 off) ∧ w'.cell? ⟨w.heap.size, 3, none⟩ = some (.int .i64 kind) ∧ w'.cell? ⟨w.heap.size, 4, none⟩ = some (.int .i64 key) ∧ w'.cell? ⟨w.heap.size, 5, none⟩ = some (.int .i64 field) ∧ w'.cell? ⟨w.heap.size, 6, none⟩ = some (.int .i64 n) ∧ w'.cell? ⟨w.heap.size, 7, none⟩ = some (.string text)) (simp [go_sem, World.cell?_alloc_past, *])
        (first
          | (go_at_call 13; refine (picked_any _ _ _ (by omega) (by omega) (by omega) (by omega)).mono ?_; rintro e w' ⟨rfl, rfl⟩)
          | (go_at_call 33; refine (HC.out _).mono ?_; rintro e w1 ⟨rfl, hb1⟩; obtain ⟨hc1, hf1⟩ := bcell hb1; have hz := hb1.size; simp at hz; have hz0 : w.heap.size < w1.heap.size := (by omega); have hz1 : w.heap.size + 1 < w1.heap.size := (by omega); have hz2 : w.heap.size + 1 + 1 < w1.heap.size := (by omega)))
      all_goals go_wp2_with fail
      have hI : itemOf ⟨client, off, wait, ⟨kind, key, field, n, text⟩⟩ term time = { term := 1 + picked term 1000, time := picked time 100000, nop := false, client := picked client 50 + 1, seq := 1 + picked off 100, cmd := ⟨ck, cy, cf, ct, cn⟩ } := by simp [itemOf, h0, h1, HR.out]
      rw [hI]
      refine bodyPost_ret (v := .agg _) ?_ rfl ⟨rfl, (by repeat (first | (with_reducible exact Below.refl _ _) | (with_reducible assumption) | (with_reducible refine Below.drew ?_) | (with_reducible refine bdrewN ?_ _) | (with_reducible refine balloc ?_ _) | ((with_reducible refine bset ?_ ?_ _); rotate_left; (focus first | exact Nat.le_refl _ | (simp; done) | (simp; omega) | omega)) | (with_reducible refine bstep ?_ (by with_reducible assumption)) | (with_reducible refine Below.trans ?_ (by with_reducible assumption))))⟩
      simp [results, Try.results23, go_sem, Itm.cells, *]
end Go.Proofs.Ytaldmianlmgloab
