import Derived.WalkKit
import Derived.WalkSpells
import Derived.WalkLawsBesides
import Derived.Deep.Draws
import Derived.Deep.QuietTactic
import Derived.BigQuiet
import Derived.Laws.CopyRow
import Derived.Laws.AppendOwnNone
import Derived.Lib.AppendZerosOnto
import Derived.Lib.AppendZeros
import Derived.ArgAppend
import Derived.StillTailTactics
import Derived.Maps.AppendAt
import Derived.Lib.AppendStr
import Derived.Deep.RegionLaw
import Derived.Deep.RegionHeld3
import Derived.Lib.Bytealg
import Derived.Deep.DeepCutAuto
import Derived.Sort.Walk0
import Derived.Deep.CutBlock
import Derived.Lib.Overlaps
import Derived.Deep.DrawnRows
import Derived.ProofKit
import Derived.Laws.BytesString
import Derived.Laws.Bits64b
import Derived.LaidMore
import Derived.SevenTiedAt
import Derived.JoinedOf
import Derived.Test.YtgpkgegpcgiokaaGreatDoorQBase
import Derived.Test.YtgpkgegpcgiokaaGreatDoorQOwn
import Derived.Test.YtgpkgegpcgiokaaGreatDoorQWire
import Derived.Test.YtgpkgegpcgiokaaGreatDoorQHeldX
import Derived.Test.YtgpkgegpcgiokaaGreatDoorQVal
import Derived.Test.YtgpkgegpcgiokaaGreatDoorQCmd
import Derived.Test.YtgpkgegpcgiokaaGreatDoorQFind2
import Derived.Test.YtgpkgegpcgiokaaGreatDoorQCmp
import Derived.Test.YtgpkgegpcgiokaaGreatDoorQCheck
import Derived.Test.YtgpkgegpcgiokaaGreatDoorQIns
import Derived.Test.YtgpkgegpcgiokaaGreatDoorQBin
import Derived.Test.YtgpkgegpcgiokaaGreatDoorQCommand
import Derived.Test.YtgpkgegpcgiokaaGreatDoorQHold
import Derived.Test.YtgpkgegpcgiokaaGreatDoorQHash
import Derived.Test.YtgpkgegpcgiokaaGreatDoorQSet
import Derived.Test.YtgpkgegpcgiokaaGreatDoorQRanks
import Derived.Test.YtgpkgegpcgiokaaGreatDoorQList
import Derived.Test.YtgpkgegpcgiokaaGreatDoorQDo
import Derived.Test.YtgpkgegpcgiokaaGreatDoorQDonP
import Derived.Test.YtgpkgegpcgiokaaGreatDoorQDone
import Derived.Test.YtgpkgegpcgiokaaGreatDoorQEnt
import Derived.Test.YtgpkgegpcgiokaaGreatDoorQEntD
import Derived.Test.YtgpkgegpcgiokaaGreatDoorQStoC
import Derived.Test.YtgpkgegpcgiokaaGreatDoorQStoK
import Derived.Test.YtgpkgegpcgiokaaGreatDoorQCall
import Derived.Test.YtgpkgegpcgiokaaGreatDoorQValsP
import Derived.Test.YtgpkgegpcgiokaaGreatDoorQStoD
import Derived.Test.YtgpkgegpcgiokaaGreatDoorQStoP
import Derived.Test.YtgpkgegpcgiokaaGreatDoorQStoA
import Derived.Test.YtgpkgegpcgiokaaGreatDoorQCli
import Derived.Test.YtgpkgegpcgiokaaGreatDoorQCliO
import Derived.Test.YtgpkgegpcgiokaaGreatDoorQCliC
import Derived.Test.YtgpkgegpcgiokaaGreatDoorQCliD
import Derived.Test.YtgpkgegpcgiokaaGreatDoorQCliE
import Derived.Test.YtgpkgegpcgiokaaGreatDoorQMachC
import Derived.Test.YtgpkgegpcgiokaaGreatDoorQMachS
import Derived.Test.YtgpkgegpcgiokaaGreatDoorQLaidN
namespace Go.Proofs.YtgpkgegpcgiokaaGreatDoor
set_option linter.all false
open Go.ChangeShapes Go.WideShapes Go.ChangeAt Go.RowKit


end Go.Proofs.YtgpkgegpcgiokaaGreatDoor
namespace Go.Proofs.YtgpkgegpcgiokaaGreatDoor
set_option linter.all false
open Go.RowKit
def itemOf (d : DeedD) (term time : Int) : Itm :=
 if (picked d.client 5 == 0) = true then { term := 1 + picked term 1000, time := picked time 100000, nop := true, client := 0, seq := 0, cmd := zeroCmd }
 else if (picked d.client 5 == 1) = true then { term := 1 + picked term 1000, time := picked time 100000, nop := false, client := 0, seq := 0, cmd := zeroCmd }
 else { term := 1 + picked term 1000, time := picked time 100000, nop := false, client := picked d.client 50 + 1, seq := 1 + picked d.off 100, cmd := cmdR d.raw }
set_option maxHeartbeats 2000000 in
theorem Item_any (d : DeedD) (hd : d.ok) (term time : Int) (w : World) (ht : I64 term) (hm : I64 time) :
  Calls Tryz.prog 98 #[.agg #[.int .i64 d.client, .int .i64 d.off, .int .i64 d.wait, .int .i64 d.raw.kind, .int .i64 d.raw.key, .int .i64 d.raw.field, .int .i64 d.raw.n, .string d.raw.text], .int .i64 term, .int .i64 time] w
   fun e w' => e = .returned (.agg (itemOf d term time).cells.toArray) ∧ Below w.heap.size w w' := by
 obtain ⟨⟨c1, c2⟩, ⟨o1, o2⟩, ⟨a1, a2⟩, ⟨k1, k2⟩, ⟨y1, y2⟩, ⟨f1, f2⟩, ⟨n1, n2⟩, hx⟩ := hd
 obtain ⟨client, off, wait, ⟨kind, key, field, n, text⟩⟩ := d
 simp only at c1 c2 o1 o2 a1 a2 k1 k2 y1 y2 f1 f2 n1 n2 hx
 obtain ⟨t1, t2⟩ := ht
 obtain ⟨m1, m2⟩ := hm
 have p1 := picked_lo term 1000 (by omega)
 have p2 := picked_hi term 1000 (by omega)
 have q1 := picked_lo client 50 (by omega)
 have q2 := picked_hi client 50 (by omega)
 have r1 := picked_lo off 100 (by omega)
 have r2 := picked_hi off 100 (by omega)
 have hC := fun w => Command_any kind key field n text w k1 k2 y1 y2 f1 f2 n1 n2 hx (picked kind 22) rfl (picked_lo _ _ (by omega)) (picked_hi _ _ (by omega))
 have hR : cmdR ⟨kind, key, field, n, text⟩ = cmdOf kind key field n text := rfl
 generalize cmdOf kind key field n text = cm at hC hR
 have HR := hide hR; clear hR
 obtain ⟨ck, cy, cf, ct, cn⟩ := cm
 simp only [cmdV] at hC
 have HC := hide hC; clear hC
 have hw1 : IntKind.i64.wrap (picked client 50 + 1) = picked client 50 + 1 := IntWalk.i64_in _ (by omega)
 have hw2 : IntKind.i64.wrap (1 + picked off 100) = 1 + picked off 100 := IntWalk.i64_in _ (by omega)
 by_cases h0 : (picked client 5 == 0) = true
 ·go_enter Tryz.func98, Tryz.ntmps98
  go_wp2_with (go_at_call 30; refine (picked_any _ _ _ (by omega) (by omega) (by omega) (by omega)).mono ?_; rintro e w' ⟨rfl, rfl⟩)
  have hI : itemOf ⟨client, off, wait, ⟨kind, key, field, n, text⟩⟩ term time = { term := 1 + picked term 1000, time := picked time 100000, nop := true, client := 0, seq := 0, cmd := zeroCmd } := by simp [itemOf, h0]
  rw [hI]
  refine bodyPost_ret (v := .agg _) ?_ rfl ⟨rfl, below_by⟩
  simp [results, Tryz.results98, go_sem, Itm.cells, zeroCmd, emp]
 ·have h0 : (picked client 5 == 0) = false := by simpa using h0
  by_cases h1 : (picked client 5 == 1) = true
  ·go_enter Tryz.func98, Tryz.ntmps98
   go_wp2_with (go_at_call 30; refine (picked_any _ _ _ (by omega) (by omega) (by omega) (by omega)).mono ?_; rintro e w' ⟨rfl, rfl⟩)
   have hI : itemOf ⟨client, off, wait, ⟨kind, key, field, n, text⟩⟩ term time = { term := 1 + picked term 1000, time := picked time 100000, nop := false, client := 0, seq := 0, cmd := zeroCmd } := by simp [itemOf, h0, h1]
   rw [hI]
   refine bodyPost_ret (v := .agg _) ?_ rfl ⟨rfl, below_by⟩
   simp [results, Tryz.results98, go_sem, Itm.cells, zeroCmd, emp]
  ·have h1 : (picked client 5 == 1) = false := by simpa using h1
   go_enter Tryz.func98, Tryz.ntmps98
   go_wp2_with (go_at_call 30; refine (picked_any _ _ _ (by omega) (by omega) (by omega) (by omega)).mono ?_; rintro e w' ⟨rfl, rfl⟩)
   go_region_held3 (fun w' => w'.cell? ⟨w.heap.size, 0, none⟩ = some (.int .i64 client) ∧ w'.cell? ⟨w.heap.size, 1, none⟩ = some (.int .i64 off) ∧ w'.cell? ⟨w.heap.size, 3, none⟩ = some (.int .i64 kind) ∧ w'.cell? ⟨w.heap.size, 4, none⟩ = some (.int .i64 key) ∧ w'.cell? ⟨w.heap.size, 5, none⟩ = some (.int .i64 field) ∧ w'.cell? ⟨w.heap.size, 6, none⟩ = some (.int .i64 n) ∧ w'.cell? ⟨w.heap.size, 7, none⟩ = some (.string text)) (simp [go_sem, World.cell?_alloc_past, *])
    (first
     | (go_at_call 30; refine (picked_any _ _ _ (by omega) (by omega) (by omega) (by omega)).mono ?_; rintro e w' ⟨rfl, rfl⟩)
     | (go_at_call 29; refine (HC.out _).mono ?_; rintro e w1 ⟨rfl, hb1⟩; obtain ⟨hc1, hf1⟩ := bcell hb1; have hz := hb1.size; simp at hz; have hz0 : w.heap.size < w1.heap.size := (by omega); have hz1 : w.heap.size + 1 < w1.heap.size := (by omega); have hz2 : w.heap.size + 1 + 1 < w1.heap.size := (by omega)))
   all_goals go_wp2_with fail
   have hI : itemOf ⟨client, off, wait, ⟨kind, key, field, n, text⟩⟩ term time = { term := 1 + picked term 1000, time := picked time 100000, nop := false, client := picked client 50 + 1, seq := 1 + picked off 100, cmd := ⟨ck, cy, cf, ct, cn⟩ } := by simp [itemOf, h0, h1, HR.out]
   rw [hI]
   refine bodyPost_ret (v := .agg _) ?_ rfl ⟨rfl, below_by⟩
   simp [results, Tryz.results98, go_sem, Itm.cells, *]
end Go.Proofs.YtgpkgegpcgiokaaGreatDoor

namespace Go.Proofs.YtgpkgegpcgiokaaGreatDoor
set_option linter.all false
open Go.RowKit
open Go.Lib (strCells strCells_length)
def txtB (s : ByteArray) : List Value := [u8 s.size] ++ strCells s
def txtsB (l : List ByteArray) : List Value := [u8 l.length] ++ (l.map txtB).flatten
def pairB (p : Pr) : List Value := txtB p.field ++ txtB p.text
def scoreB (s : Sc) : List Value := txtB s.member ++ num8 s.n
def valB (v : Va) : List Value := [u8 v.kind] ++ txtB v.text ++ num8 v.count ++ ([u8 v.pairs.length] ++ (v.pairs.map pairB).flatten) ++ txtsB v.items ++ ([u8 v.scores.length] ++ (v.scores.map scoreB).flatten)
end Go.Proofs.YtgpkgegpcgiokaaGreatDoor

namespace Go.Proofs.YtgpkgegpcgiokaaGreatDoor
set_option linter.all false
open Go.RowKit
open Go.Lib (strCells strCells_length)
def entB (x : En) : List Value := txtB x.key ++ valB x.val ++ num8 x.till
def cliB (x : Cl) : List Value := num8 x.id ++ num8 x.seq ++ num8 x.time ++ [u8 x.rep.code] ++ txtB x.rep.text ++ num8 x.rep.n ++ txtsB x.rep.list
def encB (m : Mach) : List Value := num8 m.now ++ ([u8 m.ents.length] ++ (m.ents.map entB).flatten) ++ num8 m.next ++ ([u8 m.clis.length] ++ (m.clis.map cliB).flatten)
end Go.Proofs.YtgpkgegpcgiokaaGreatDoor

namespace Go.Proofs.YtgpkgegpcgiokaaGreatDoor
set_option linter.all false
open Go.RowKit
theorem item_info : (Tryz.prog.info? 68).map (fun i => (i.zero, i.size, i.bytes)) = some (some (.agg #[.int .i64 0, .int .i64 0, .bool false, .int .i64 0, .int .i64 0, .int .i64 0, .string ByteArray.empty, .string ByteArray.empty, .string ByteArray.empty, .int .i64 0]), 10, 104) := by kernel_rfl
theorem Clone_item (A : Option Addr) (n c : Nat) (rows : List (List Value)) (w : World) (h : Sl w 10 A n c rows) (h1 : ∀ r ∈ rows, ∀ u ∈ r, u.oneCell' = true) (hb : n * 104 ≤ 140737488355328) :
  Calls Tryz.prog 101 #[.slice A n c] w fun e w' => ∃ v, e = .returned v ∧ Own w' w.heap.size 68 10 v rows ∧ Below w.heap.size w w' := by
 have hS := h
 obtain ⟨hl, hnc, hcm, hn0, hs, hr⟩ := h
 have hq := fun w => Lib.run_eql_slice_nil (P := Tryz.prog) w 71 68 A n c 0 0 Tryz.underlying71
 cases A with
 | none =>
  obtain rfl := hn0 rfl
  obtain rfl : n = 0 := by omega
  obtain rfl := List.eq_nil_of_length_eq_zero hl
  go_enter Tryz.func101, Tryz.ntmps101
  go_wp2_with fail
  go_ret
  exact ⟨_, rfl, Own.nil, below_by⟩
 | some a =>
  by_cases hn : n = 0
  ·subst hn
   obtain rfl := List.eq_nil_of_length_eq_zero hl
   go_enter Tryz.func101, Tryz.ntmps101
   go_wp2_with fail
   go_ret
   exact ⟨_, rfl, Own.empty _ _ _ (Nat.le_refl _), below_by⟩
  ·go_enter Tryz.func101, Tryz.ntmps101
   go_wp2_with (at_builtin; refine wpList_grow rfl _ _ _ rfl Tryz.underlying71 item_info rfl (by decide) (rows := []) rfl rfl (by simp) Seg.nil (by simp) rfl hl hr (hs.alloc _) h1 (by omega) (by omega) (by rw [Nat.zero_add]; omega) (by omega) ?_; intro v' w1 hown hb1)
   go_ret
   exact ⟨_, rfl, by simpa using hown.mono (by simp), bstep below_by hb1⟩
end Go.Proofs.YtgpkgegpcgiokaaGreatDoor
namespace Go.Proofs.YtgpkgegpcgiokaaGreatDoor
set_option linter.all false
open Go.RowKit
def Itm.zero (x : Itm) : Bool := x.client == 0 && zeroCall x.seq x.cmd.kind x.cmd.key x.cmd.field x.cmd.text x.cmd.n
def checkItem (x : Itm) : Int :=
 if x.term < 1 ∨ 1048576 < x.term ∨ x.time < 0 ∨ 1073741824 < x.time then 2
 else if x.nop = true then (if x.zero = true then 0 else 8)
 else checkCall x.client x.seq x.cmd.kind x.cmd.key x.cmd.field x.cmd.text x.cmd.n
set_option maxHeartbeats 1000000 in
theorem CheckItem_any (x : Itm) (w : World) :
  Calls Tryz.prog 78 #[.agg #[.int .i64 x.term, .int .i64 x.time, .bool x.nop, .int .i64 x.client, .int .i64 x.seq, .int .i64 x.cmd.kind, .string x.cmd.key, .string x.cmd.field, .string x.cmd.text, .int .i64 x.cmd.n]] w
   fun e w' => e = .returned (.int .i64 (checkItem x)) ∧ Below w.heap.size w w' := by
 obtain ⟨term, time, nop, client, seq, ⟨kind, key, field, text, n⟩⟩ := x
 cases nop
 all_goals
  go_enter Tryz.func78, Tryz.ntmps78
  go_wp2_with (go_at_call 58; refine (CheckCall_any _ _ _ _ _ _ _ _).mono ?_; rintro e w1 ⟨rfl, hb1⟩)
  all_goals go_ret
  all_goals refine ⟨ret_int ?_, below_by⟩
  all_goals (unfold checkItem Itm.zero zeroCall; simp_all <;> omega)
end Go.Proofs.YtgpkgegpcgiokaaGreatDoor
namespace Go.Proofs.YtgpkgegpcgiokaaGreatDoor
set_option linter.all false
open Go.RowKit
/-- An item of a deed, at a term and a time. -/
def itemAt (d : DeedD) (t m : Int) : Itm := { itemOf d 0 0 with term := t, time := m }
end Go.Proofs.YtgpkgegpcgiokaaGreatDoor
namespace Go.Proofs.YtgpkgegpcgiokaaGreatDoor
set_option linter.all false
open Go.RowKit
theorem zeroCmd_call : zeroCall 0 zeroCmd.kind zeroCmd.key zeroCmd.field zeroCmd.text zeroCmd.n = true := by
 simp [zeroCall, zeroCmd, emp_list]
theorem check_itemAt (d : DeedD) (t m : Int) (h1 : 1 ≤ t) (h2 : t ≤ 1048576) (h3 : 0 ≤ m) (h4 : m ≤ 1073741824) : checkItem (itemAt d t m) = 0 := by
 have c1 := picked_lo d.client 50 (by omega)
 have c2 := picked_hi d.client 50 (by omega)
 have o1 := picked_lo d.off 100 (by omega)
 have o2 := picked_hi d.off 100 (by omega)
 unfold itemAt itemOf
 split
 ·unfold checkItem
  rw [if_neg (by simp; omega)]
  simp [Itm.zero, zeroCmd_call]
 ·split
  ·unfold checkItem
   rw [if_neg (by simp; omega)]
   simp [checkCall, zeroCmd_call]
  ·unfold checkItem
   rw [if_neg (by simp; omega)]
   simp only [Bool.false_eq_true, if_false]
   unfold checkCall
   rw [if_neg (by simp; omega), if_neg (by simp [numberOk]; omega)]
   exact cmd_ok _ _ _ _ _
end Go.Proofs.YtgpkgegpcgiokaaGreatDoor

namespace Go.Proofs.YtgpkgegpcgiokaaGreatDoor
set_option linter.all false
open Go.RowKit Go.Lib
def txt (s : ByteArray) : List Value := [u8 s.size] ++ strCells s
def cmdBytes (c : Cmd) : List Value := [u8 c.kind] ++ txt c.key ++ txt c.field ++ txt c.text ++ num8 c.n
def callBytes (client seq : Int) (c : Cmd) : List Value := num8 client ++ (if 0 < client then num8 seq ++ cmdBytes c else [])
def itemBytes (x : Itm) : List Value := num8 x.term ++ num8 x.time ++ (if x.nop = true then [u8 1] else [u8 0] ++ callBytes x.client x.seq x.cmd)
end Go.Proofs.YtgpkgegpcgiokaaGreatDoor
namespace Go.Proofs.YtgpkgegpcgiokaaGreatDoor
set_option linter.all false
open Go.RowKit Go.Lib
def byteRows (l : List Value) : List (List Value) := l.map fun b => [b]
theorem byteRows_length (l : List Value) : (byteRows l).length = l.length := by simp [byteRows]
end Go.Proofs.YtgpkgegpcgiokaaGreatDoor
namespace Go.Proofs.YtgpkgegpcgiokaaGreatDoor
set_option linter.all false
open Go.RowKit Go.Lib
def U8s (l : List Value) : Prop := ∀ u ∈ l, ∃ n : Int, u = .int .u8 n ∧ 0 ≤ n ∧ n < 256
/-- The rest, and whether it was short. -/
abbrev RS := List Value × Bool
theorem U8s.app {a b : List Value} (ha : U8s a) (hb : U8s b) : U8s (a ++ b) := fun u hu => (List.mem_append.1 hu).elim (ha u) (hb u)
theorem U8s.one {n : Int} (h0 : 0 ≤ n) (h1 : n < 256) : U8s [u8 n] := fun u hu => by rw [List.mem_singleton] at hu; exact ⟨n, hu, h0, h1⟩
end Go.Proofs.YtgpkgegpcgiokaaGreatDoor
namespace Go.Proofs.YtgpkgegpcgiokaaGreatDoor
set_option linter.all false
open Go.ChangeShapes Go.WideShapes Go.ChangeAt Go.RowKit
theorem itemOf_at (d : DeedD) (t m : Int) : itemOf d t m = itemAt d (1 + picked t 1000) (picked m 100000) := by
 unfold itemAt itemOf
 split
 ·rfl
 ·split <;> rfl
theorem check_itemOf (d : DeedD) (t m : Int) : checkItem (itemOf d t m) = 0 := by
 have p1 := picked_lo t 1000 (by omega)
 have p2 := picked_hi t 1000 (by omega)
 have q1 := picked_lo m 100000 (by omega)
 have q2 := picked_hi m 100000 (by omega)
 rw [itemOf_at]
 exact check_itemAt d _ _ (by omega) (by omega) (by omega) (by omega)
end Go.Proofs.YtgpkgegpcgiokaaGreatDoor
namespace Go.Proofs.YtgpkgegpcgiokaaGreatDoor
set_option linter.all false
open Go.RowKit Go.Lib
/-- The reader at block g has this rest (bytes that lie in memory older than W0's end), and was short or not. -/
structure Rd (W0 w : World) (g : Nat) (st : RS) : Prop where
 slc : ∃ A n c, Blk w g 162 #[.slice A n c, .bool st.2] ∧ Sl W0 1 A n c (byteRows st.1)
 low : Below W0.heap.size W0 w
 gb : W0.heap.size ≤ g
 u8 : U8s st.1
def Nil : Value := .slice none 0 0
theorem Rd.below {W0 w w' : World} {g : Nat} {st : RS} (h : Rd W0 w g st) (hb : Below w.heap.size w w') : Rd W0 w' g st := by
 obtain ⟨⟨A, n, c, h1, h2⟩, h3, h4, h5⟩ := h
 exact ⟨⟨A, n, c, h1.below' hb, h2⟩, h3.trans (hb.mono h3.size), h4, h5⟩
theorem Rd.alloc {W0 w : World} {g : Nat} {st : RS} (h : Rd W0 w g st) (o : Obj) : Rd W0 (w.alloc o) g st := h.below ((Below.refl _ w).alloc (Nat.le_refl _) o)
theorem U8s.drop {l : List Value} (h : U8s l) (n : Nat) : U8s (l.drop n) := fun u hu => h u (List.mem_of_mem_drop hu)
theorem U8s.take {l : List Value} (h : U8s l) (n : Nat) : U8s (l.take n) := fun u hu => h u (List.mem_of_mem_take hu)
end Go.Proofs.YtgpkgegpcgiokaaGreatDoor
namespace Go.Proofs.YtgpkgegpcgiokaaGreatDoor
set_option linter.all false
open Go.RowKit Go.Lib
theorem Rd.set {W0 w : World} {g : Nat} {st : RS} (h : Rd W0 w g st) {p : Addr} (hp : g ≠ p.block) (hp2 : W0.heap.size ≤ p.block) (u : Value) : Rd W0 (w.setCell p u) g st := by
 obtain ⟨⟨A, n, c, h1, h2⟩, h3, h4, h5⟩ := h
 exact ⟨⟨A, n, c, h1.far hp u, h2⟩, h3.setCell hp2 u, h4, h5⟩
theorem Rd.lt {W0 w : World} {g : Nat} {st : RS} (h : Rd W0 w g st) : g < w.heap.size := by
 obtain ⟨⟨A, n, c, h1, _⟩, _⟩ := h; exact h1.lt
theorem Wrote.set {w w1 : World} {g : Nat} {v v' : Value} (h : Wrote w w1 g v v') {p : Addr} (hp : w.heap.size ≤ p.block) (u : Value) : Wrote w (w1.setCell p u) g v v' :=
 ⟨h.os, h.tape, h.output, by have := h.size; simpa using this, fun b hb hg hv => (Below.heap_setCell w1 p u b (by omega)).trans (h.block b hb hg hv), h.row⟩
theorem Wrote.alloc {w w1 : World} {g : Nat} {v v' : Value} (h : Wrote w w1 g v v') (o : Obj) : Wrote w (w1.alloc o) g v v' := h.post ((Below.refl _ w1).alloc (Nat.le_refl _) o)
theorem Box.fresh {w : World} {g : Nat} (hg : g < w.heap.size) (t : TypeId) (cs : Array Value) : Box (w.alloc (.cells cs t)) w.heap.size t cs g Nil :=
 ⟨Blk.new w t cs, by omega, by simp [Nil, Value.ownBlock]⟩
theorem Box.al {w : World} {b g : Nat} {t : TypeId} {cs : Array Value} {v : Value} (h : Box w b t cs g v) (o : Obj) : Box (w.alloc o) b t cs g v := h.below ((Below.refl _ w).alloc (Nat.le_refl _) o)
theorem Box.set {w : World} {b g i : Nat} {t : TypeId} {cs : Array Value} {v u : Value} {cs' : Array Value} (h : Box w b t cs g v) (he : cs.setIfInBounds i u = cs') : Box (w.setCell ⟨b, i, none⟩ u) b t cs' g v := ⟨h.blk.set' he, h.ng, h.nv⟩
theorem Box.far {w : World} {b g : Nat} {t : TypeId} {cs : Array Value} {v : Value} (h : Box w b t cs g v) {p : Addr} (hp : b ≠ p.block) (u : Value) : Box (w.setCell p u) b t cs g v := ⟨h.blk.far hp u, h.ng, h.nv⟩
end Go.Proofs.YtgpkgegpcgiokaaGreatDoor
namespace Go.Proofs.YtgpkgegpcgiokaaGreatDoor
set_option linter.all false
open Go.RowKit Go.Lib
/-- Who was short stays so; what is enough is as much ahead of any bytes; what is not is short. -/
structure Parse {α : Type} (P : RS → α × RS) : Prop where
 stick : ∀ l, (P (l, true)).2.2 = true
 pre : ∀ p q : List Value, (P (p ++ q, false)).2.2 = false → (P (p, false)).2.2 = true ∨ ∃ r, P (p, false) = ((P (p ++ q, false)).1, (r, false)) ∧ (P (p ++ q, false)).2.1 = r ++ q
theorem Parse.map {α β : Type} {P : RS → α × RS} (hP : Parse P) (f : α → β) : Parse (fun st => (f (P st).1, (P st).2)) := by
 constructor
 ·intro l; exact hP.stick l
 ·intro p q h
  rcases hP.pre p q h with h2 | ⟨r, h2, h3⟩
  ·exact .inl h2
  ·exact .inr ⟨r, by rw [h2], h3⟩
end Go.Proofs.YtgpkgegpcgiokaaGreatDoor

namespace Go.Proofs.YtgpkgegpcgiokaaGreatDoor
set_option linter.all false
open Go.RowKit
theorem tnumber_any (n : Int) (w : World) : Calls Tryz.prog 76 #[.int .i64 n] w fun e w' => e = .returned (.bool (numberOk n)) ∧ w = w' := by
 go_enter Tryz.func76, Tryz.ntmps76
 go_wp2_with fail
 all_goals go_ret
 all_goals exact ⟨ret_bool (by simp [numberOk]; try omega), rfl⟩
def csM (i t : Int) (m : Mach) : Int := if (numberOk i && numberOk t) = true then checkMach m else 2
set_option maxRecDepth 100000 in
set_option maxHeartbeats 4000000 in
theorem CheckSnap_any (i t : Int) (m : Mach) (A B : Option Addr) (na ca nb cb : Nat) (w : World) (hE : StSl w A na ca m.ents) (hC : ClSl w B nb cb m.clis) (hna : na ≤ 1048576) (hnb : nb ≤ 1048576) (hsm : ∀ x ∈ m.ents, small x.val 1048576) (hcl : ∀ x ∈ m.clis, x.rep.text.size ≤ 1048576 ∧ x.rep.list.length ≤ 1048576) :
  Calls Tryz.prog 36 #[.agg #[.int .i64 i, .int .i64 t, .int .i64 m.now, .slice A na ca, .int .i64 m.next, .slice B nb cb]] w fun e w' => e = .returned (.int .i64 (csM i t m)) ∧ Below w.heap.size w w' := by
 have KM := hide (fun w' (hb : Below w.heap.size w w') => CheckM_any m A B na ca nb cb w' (hE.bl hb) (hC.bl hb) hna hnb hsm hcl)
 have h1 := fun w => tnumber_any i w
 have h2 := fun w => tnumber_any t w
 unfold csM
 generalize checkMach m = cm at *
 generalize numberOk i = bi at *
 generalize numberOk t = bt at *
 have H1 := hide h1; have H2 := hide h2
 clear h1 h2 hE hC hsm hcl
 obtain ⟨now, ents, next, clis⟩ := m
 simp only at KM ⊢
 have T0 := Blk.new w 63 #[.int .i64 i, .int .i64 t, .int .i64 now, .slice A na ca, .int .i64 next, .slice B nb cb]
 have q0 : Below w.heap.size w (w.alloc (.cells #[.int .i64 i, .int .i64 t, .int .i64 now, .slice A na ca, .int .i64 next, .slice B nb cb] 63)) := below_by
 go_enter Tryz.func36, Tryz.ntmps36
 go_wp2_with fail
 refine (H1.out _).mono ?_
 rintro e w' ⟨rfl, rfl⟩
 cases bi
 ·go_wp2_with fail
  go_ret
  exact ⟨rfl, q0⟩
 ·(try clear cT0 fT0); have cT0 := T0.cell; have fT0 := T0.frozen
  go_wp2_with fail
  refine (H2.out _).mono ?_
  rintro e w' ⟨rfl, rfl⟩
  cases bt
  ·go_wp2_with fail
   go_ret
   exact ⟨rfl, q0⟩
  ·go_wp2_with fail
   refine (KM.out _ q0).mono ?_
   rintro e w1 ⟨rfl, hb1⟩
   have q1 := bstep q0 hb1
   go_wp2_with fail
   go_ret
   exact ⟨rfl, q1⟩
set_option maxRecDepth 100000 in
set_option maxHeartbeats 8000000 in
theorem CheckLoad_any (i t : Int) (m : Mach) (A B : Option Addr) (na ca nb cb : Nat) (w : World) (hE : StSl w A na ca m.ents) (hC : ClSl w B nb cb m.clis) (hna : na ≤ 1048576) (hnb : nb ≤ 1048576) (hsm : ∀ x ∈ m.ents, small x.val 1048576) (hcl : ∀ x ∈ m.clis, x.rep.text.size ≤ 1048576 ∧ x.rep.list.length ≤ 1048576) :
  Calls Tryz.prog 37 #[.agg #[.int .i64 3, .int .i64 0, .int .i64 0, .int .i64 0, .int .i64 0, .int .i64 0, .bool false, .int .i64 0, .int .i64 0, .int .i64 0, .string { data := #[] }, .string { data := #[] }, .string { data := #[] }, .int .i64 0, .int .i64 i, .int .i64 t, .int .i64 m.now, .slice A na ca, .int .i64 m.next, .slice B nb cb]] w fun e w' => e = .returned (.int .i64 (csM i t m)) ∧ Below w.heap.size w w' := by
 have KM := hide (fun w' (hb : Below w.heap.size w w') => CheckSnap_any i t m A B na ca nb cb w' (hE.bl hb) (hC.bl hb) hna hnb hsm hcl)
 generalize csM i t m = R at *
 clear hE hC hsm hcl
 obtain ⟨now, ents, next, clis⟩ := m
 simp only at KM ⊢
 have T0 := Blk.new w 70 #[.int .i64 3, .int .i64 0, .int .i64 0, .int .i64 0, .int .i64 0, .int .i64 0, .bool false, .int .i64 0, .int .i64 0, .int .i64 0, .string { data := #[] }, .string { data := #[] }, .string { data := #[] }, .int .i64 0, .int .i64 i, .int .i64 t, .int .i64 now, .slice A na ca, .int .i64 next, .slice B nb cb]
 replace T0 := T0.alloc (.cells #[.int .i64 0, .int .i64 0, .bool false, .int .i64 0, .int .i64 0, .int .i64 0, .string { data := #[] }, .string { data := #[] }, .string { data := #[] }, .int .i64 0] 68)
 have I0 := Blk.new (w.alloc (.cells #[.int .i64 3, .int .i64 0, .int .i64 0, .int .i64 0, .int .i64 0, .int .i64 0, .bool false, .int .i64 0, .int .i64 0, .int .i64 0, .string { data := #[] }, .string { data := #[] }, .string { data := #[] }, .int .i64 0, .int .i64 i, .int .i64 t, .int .i64 now, .slice A na ca, .int .i64 next, .slice B nb cb] 70)) 68 #[.int .i64 0, .int .i64 0, .bool false, .int .i64 0, .int .i64 0, .int .i64 0, .string { data := #[] }, .string { data := #[] }, .string { data := #[] }, .int .i64 0]
 have q0 : Below w.heap.size w ((w.alloc (.cells #[.int .i64 3, .int .i64 0, .int .i64 0, .int .i64 0, .int .i64 0, .int .i64 0, .bool false, .int .i64 0, .int .i64 0, .int .i64 0, .string { data := #[] }, .string { data := #[] }, .string { data := #[] }, .int .i64 0, .int .i64 i, .int .i64 t, .int .i64 now, .slice A na ca, .int .i64 next, .slice B nb cb] 70)).alloc (.cells #[.int .i64 0, .int .i64 0, .bool false, .int .i64 0, .int .i64 0, .int .i64 0, .string { data := #[] }, .string { data := #[] }, .string { data := #[] }, .int .i64 0] 68)) := below_by
 go_enter Tryz.func37, Tryz.ntmps37
 (try clear cT0 fT0); have cT0 := T0.cell; have fT0 := T0.frozen; (try clear cI0 fI0); have cI0 := I0.cell; have fI0 := I0.frozen
 go_wp2_with fail
 refine (KM.out _ q0).mono ?_
 rintro e w1 ⟨rfl, hb1⟩
 have q1 := bstep q0 hb1
 go_wp2_with fail
 go_ret
 exact ⟨rfl, q1⟩
set_option maxHeartbeats 4000000 in
theorem whole_snap {w2 : World} {b : Nat} {x0 x1 x2 x3 x4 x5 : Value} (u0 u1 u2 u3 u4 u5 : Value) (R : Blk w2 b 63 #[x0, x1, x2, x3, x4, x5]) :
  Blk ((((((w2.setCell ⟨b, 0, none⟩ (u0)).setCell ⟨b, 1, none⟩ (u1)).setCell ⟨b, 2, none⟩ (u2)).setCell ⟨b, 3, none⟩ (u3)).setCell ⟨b, 4, none⟩ (u4)).setCell ⟨b, 5, none⟩ (u5)) b 63 #[u0, u1, u2, u3, u4, u5] ∧ w2.grownBy ((((((w2.setCell ⟨b, 0, none⟩ (u0)).setCell ⟨b, 1, none⟩ (u1)).setCell ⟨b, 2, none⟩ (u2)).setCell ⟨b, 3, none⟩ (u3)).setCell ⟨b, 4, none⟩ (u4)).setCell ⟨b, 5, none⟩ (u5)) (some b) ∧ ((((((w2.setCell ⟨b, 0, none⟩ (u0)).setCell ⟨b, 1, none⟩ (u1)).setCell ⟨b, 2, none⟩ (u2)).setCell ⟨b, 3, none⟩ (u3)).setCell ⟨b, 4, none⟩ (u4)).setCell ⟨b, 5, none⟩ (u5)).heap.size = w2.heap.size := by
 have R0 := R.set' (i := 0) (u := u0) rfl
 have R1 := R0.set' (i := 1) (u := u1) rfl
 have R2 := R1.set' (i := 2) (u := u2) rfl
 have R3 := R2.set' (i := 3) (u := u3) rfl
 have R4 := R3.set' (i := 4) (u := u4) rfl
 have R5 := R4.set' (i := 5) (u := u5) rfl
 exact ⟨R5, grown_trans (grown_trans (grown_trans (grown_trans (grown_trans (grown_setRow_cell w2 b 0 u0) (grown_setRow_cell _ b 1 u1)) (grown_setRow_cell _ b 2 u2)) (grown_setRow_cell _ b 3 u3)) (grown_setRow_cell _ b 4 u4)) (grown_setRow_cell _ b 5 u5), by simp⟩
def SnapPost (i t : Int) (m : Mach) (w : World) (e : Ending) (w' : World) : Prop :=
 ∃ A n c B k d, e = .returned (.agg #[.int .i64 i, .int .i64 t, .int .i64 m.now, .slice A n c, .int .i64 m.next, .slice B k d]) ∧ St w' A n c m.ents ∧ Ci w' B k d m.clis ∧ Below w.heap.size w w'
set_option maxRecDepth 100000 in
set_option maxHeartbeats 8000000 in
theorem snap_any (A : Option Addr) (n c : Nat) (l : List DeedD) (x y : Int) (w : World) (hS : Sl w 8 A n c (deedRows l)) (hd : ∀ d ∈ l, d.ok) (hN : Noth w) (hx : I64 x) (hy : I64 y) :
  Calls Tryz.prog 35 #[.slice A n c, .int .i64 x, .int .i64 y] w (SnapPost (1 + picked x 40) (1 + picked y 5) (machOf (l.take 8)) w) := by
 have hn := deed_len hS
 have hnc := hS.nc
 have hcm := hS.cm
 unfold maxLen at hcm
 have hr : deedRows (l.take 8) = (deedRows l).take (min n 8) := by
  unfold deedRows
  rw [← List.map_take]
  congr 1
  rcases Nat.le_total n 8 with h | h
  ·rw [Nat.min_eq_left h, List.take_of_length_le (by omega), List.take_of_length_le (by omega)]
  ·rw [Nat.min_eq_right h]
 have hT := hS.take (min n 8) (by omega) c (by omega) (Nat.le_refl _)
 rw [← hr] at hT
 have hF := fun w' (h : Below w.heap.size w w') => Machine_any A (min n 8) c (l.take 8) w' (hT.below h) (fun d hd' => hd d (List.mem_of_mem_take hd')) (hN.bl h)
 have p0 := picked_lo x 40 (by omega)
 have p1 := picked_hi x 40 (by omega)
 have r0 := picked_lo y 5 (by omega)
 have r1 := picked_hi y 5 (by omega)
 have hpx := fun w => picked_any x 40 w hx.1 hx.2 (by omega) (by omega)
 have hpy := fun w => picked_any y 5 w hy.1 hy.2 (by omega) (by omega)
 generalize picked x 40 = p at *
 generalize picked y 5 = r at *
 have hmc : min n 8 ≤ c := by omega
 have hmin : min (n : Int) 8 = ((min n 8 : Nat) : Int) := by omega
 have wp1 : IntKind.i64.wrap (1 + p) = 1 + p := IntWalk.i64_in _ (by omega)
 have wr1 : IntKind.i64.wrap (1 + r) = 1 + r := IntWalk.i64_in _ (by omega)
 generalize machOf (l.take 8) = m at *
 obtain ⟨now, ents, next, clis⟩ := m
 have HF := hide hF; have HPX := hide hpx; have HPY := hide hpy
 clear hF hpx hpy hd hT hr hx hy
 have Z0 := Blk.new w 63 #[.int .i64 0, .int .i64 0, .int .i64 0, .slice none 0 0, .int .i64 0, .slice none 0 0]
 have q0 : Below w.heap.size w (w.alloc (.cells #[.int .i64 0, .int .i64 0, .int .i64 0, .slice none 0 0, .int .i64 0, .slice none 0 0] 63)) := below_by
 go_enter Tryz.func35, Tryz.ntmps35
 go_wp2_with fail
 obtain ⟨w0, hw0⟩ : ∃ w0, w0 = w.alloc (.cells #[.int .i64 0, .int .i64 0, .int .i64 0, .slice none 0 0, .int .i64 0, .slice none 0 0] 63) := ⟨_, rfl⟩
 rw [← hw0] at Z0 q0 ⊢
 clear hw0
 refine wp_region_x (l := [13]) (S := fun w' => Below w0.heap.size w0 w') (by kernel_rfl) ((Below.refl _ w0).drew) (fun hS => ?_)
 refine wpAnyX_tk (i := 0) (v := ?xv0s) rfl (Or.inl ⟨by rfl, ?xh0s⟩) ?xr0s; (case xh0s => (intro w hSw; (try dsimp only at hSw); go_simp; (try with_reducible rfl))); (try simp only [Act.put, List.setIfInBounds_toArray, List.set_cons_zero, List.set_cons_succ, List.getElem_toArray, List.getElem_cons_zero, List.getElem_cons_succ])
 refine wpAnyX_tk (i := 3) (v := ?xv3s) rfl (Or.inl ⟨by rfl, ?xh3s⟩) ?xr3s; (case xh3s => (intro w hSw; (try dsimp only at hSw); go_simp; (try with_reducible rfl))); (try simp only [Act.put, List.setIfInBounds_toArray, List.set_cons_zero, List.set_cons_succ, List.getElem_toArray, List.getElem_cons_zero, List.getElem_cons_succ])
 refine wpAnyX_tk (i := 6) (v := ?xv6s) rfl (Or.inl ⟨by rfl, ?xh6s⟩) ?xr6s; (case xh6s => (intro w hSw; (try dsimp only at hSw); go_simp; (try with_reducible rfl))); (try simp only [Act.put, List.setIfInBounds_toArray, List.set_cons_zero, List.set_cons_succ, List.getElem_toArray, List.getElem_cons_zero, List.getElem_cons_succ])
 refine wpAnyX_tk (i := 7) (v := ?xv7s) rfl (Or.inl ⟨by rfl, ?xh7s⟩) ?xr7s; (case xh7s => (intro w hSw; (try dsimp only at hSw); go_simp; (try with_reducible rfl))); (try simp only [Act.put, List.setIfInBounds_toArray, List.set_cons_zero, List.set_cons_succ, List.getElem_toArray, List.getElem_cons_zero, List.getElem_cons_succ])
 refine wpAnyX_tk (i := 8) (v := ?xv8s) rfl (Or.inl ⟨by rfl, ?xh8s⟩) ?xr8s; (case xh8s => (intro w hSw; (try dsimp only at hSw); go_simp; (try with_reducible rfl))); (try simp only [Act.put, List.setIfInBounds_toArray, List.set_cons_zero, List.set_cons_succ, List.getElem_toArray, List.getElem_cons_zero, List.getElem_cons_succ])
 refine wpAnyX_tk (i := 9) (v := ?xv9s) rfl (Or.inl ⟨by rfl, ?xh9s⟩) ?xr9s; (case xh9s => (intro w hSw; (try dsimp only at hSw); go_simp; (try with_reducible rfl))); (try simp only [Act.put, List.setIfInBounds_toArray, List.set_cons_zero, List.set_cons_succ, List.getElem_toArray, List.getElem_cons_zero, List.getElem_cons_succ])
 refine wpAnyX_tk (i := 10) (v := ?xv10s) rfl (Or.inl ⟨by rfl, ?xh10s⟩) ?xr10s; (case xh10s => (intro w hSw; (try dsimp only at hSw); go_simp; (try with_reducible rfl))); (try simp only [Act.put, List.setIfInBounds_toArray, List.set_cons_zero, List.set_cons_succ, List.getElem_toArray, List.getElem_cons_zero, List.getElem_cons_succ])
 refine wpAnyX_one (i := 1) (by kernel_rfl) rfl (by rfl) (fun K hK => ?_); (try simp only [List.getElem_toArray, List.getElem_cons_zero, List.getElem_cons_succ])
 go_wp2_with fail
 refine (HPX.out _).mono ?_
 rintro e w' ⟨rfl, rfl⟩
 go_wp2_with fail
 refine hK.out _ _ (Or.inr hS) (fun hS => ?_)
 replace hS := hS.resolve_left (by decide)
 clear hK K
 refine wpAnyX_tk (i := 2) (v := ?xv2s) rfl (Or.inl ⟨by rfl, ?xh2s⟩) ?xr2s; (case xh2s => (intro w hSw; (try dsimp only at hSw); go_simp; (try with_reducible rfl))); (try simp only [Act.put, List.setIfInBounds_toArray, List.set_cons_zero, List.set_cons_succ, List.getElem_toArray, List.getElem_cons_zero, List.getElem_cons_succ])
 refine wpAnyX_one (i := 4) (by kernel_rfl) rfl (by rfl) (fun K hK => ?_); (try simp only [List.getElem_toArray, List.getElem_cons_zero, List.getElem_cons_succ])
 go_wp2_with fail
 refine (HPY.out _).mono ?_
 rintro e w' ⟨rfl, rfl⟩
 go_wp2_with fail
 refine hK.out _ _ (Or.inr hS) (fun hS => ?_)
 replace hS := hS.resolve_left (by decide)
 clear hK K
 refine wpAnyX_tk (i := 5) (v := ?xv5s) rfl (Or.inl ⟨by rfl, ?xh5s⟩) ?xr5s; (case xh5s => (intro w hSw; (try dsimp only at hSw); go_simp; (try with_reducible rfl))); (try simp only [Act.put, List.setIfInBounds_toArray, List.set_cons_zero, List.set_cons_succ, List.getElem_toArray, List.getElem_cons_zero, List.getElem_cons_succ])
 refine wpAnyX_one (i := 11) (by kernel_rfl) rfl (by rfl) (fun K hK => ?_); (try simp only [List.getElem_toArray, List.getElem_cons_zero, List.getElem_cons_succ])
 go_wp2_with fail
 refine (HF.out _ (bstep q0 hS)).mono ?_
 rintro e w1 ⟨A1, n1, c1, B1, k1, d1, rfl, S1, C1, hb1⟩
 have q1 := bstep hS hb1
 go_wp2_with fail
 refine hK.out _ _ (Or.inr q1) (fun hS => ?_)
 replace hS := hS.resolve_left (by decide)
 clear hK K hb1
 refine wpAnyX_tk (i := 12) (v := ?xv12s) rfl (Or.inl ⟨by rfl, ?xh12s⟩) ?xr12s; (case xh12s => (intro w hSw; (try dsimp only at hSw); go_simp; (try with_reducible rfl))); (try simp only [Act.put, List.setIfInBounds_toArray, List.set_cons_zero, List.set_cons_succ, List.getElem_toArray, List.getElem_cons_zero, List.getElem_cons_succ])
 refine wpAnyX_one (i := 13) (by kernel_rfl) rfl (by rfl) (fun K hK => ?_); (try simp only [List.getElem_toArray, List.getElem_cons_zero, List.getElem_cons_succ])
 replace Z0 := Z0.below' q1
 have hq := bstep q0 q1
 obtain ⟨Z9, gr9, sz9⟩ := whole_snap (.int .i64 (1 + p)) (.int .i64 (1 + r)) (.int .i64 now) (.slice A1 n1 c1) (.int .i64 next) (.slice B1 k1 d1) Z0
 have HP := hide (show SnapPost (1 + p) (1 + r) ⟨now, ents, next, clis⟩ w (.returned (.agg #[.int .i64 (1 + p), .int .i64 (1 + r), .int .i64 now, .slice A1 n1 c1, .int .i64 next, .slice B1 k1 d1])) _ from ⟨_, _, _, _, _, _, rfl, S1.grown Z0 gr9, C1.grown Z0 gr9, below_grow hq gr9 hq.size (Nat.le_refl _)⟩)
 have cZ9 := hide Z9.cell
 clear Z9 gr9 sz9 S1 C1 hq q1 hS q0
 (try clear cZ0 fZ0); have cZ0 := Z0.cell; have fZ0 := Z0.frozen
 go_wp2_with fail
 refine hK.out _ _ (Or.inl (by decide)) (fun _ => ?_)
 clear hK K
 refine wpAnyX_done (by kernel_rfl) ?_ _
 go_wp2_with fail
 have cZ9 := cZ9.out
 refine bodyPost_ret (v := .agg #[.int .i64 (1 + p), .int .i64 (1 + r), .int .i64 now, .slice A1 n1 c1, .int .i64 next, .slice B1 k1 d1]) ?_ rfl HP.out
 simp [results, Tryz.results35, go_sem, cZ9]
end Go.Proofs.YtgpkgegpcgiokaaGreatDoor

namespace Go.Proofs.YtgpkgegpcgiokaaGreatDoor
set_option linter.all false
open Go.RowKit
open Go.Lib (strCells strCells_length)
inductive RK where
 | mark (t f : Int)
 | line (i : Int) (x : Itm)
 | load (i t : Int) (m : Mach)
def RK.Ok : RK → Prop
 | .mark t f => numberOk t = true ∧ -1 ≤ f ∧ f < 3
 | .line i x => numberOk i = true ∧ checkItem x = 0
 | .load i t m => numberOk i = true ∧ numberOk t = true ∧ MachOk m
def three (n : Int) : List Value := [u8 (n / 65536 % 256), u8 (n / 256 % 256), u8 (n % 256)]
theorem number_iff {n : Int} : numberOk n = true ↔ 1 ≤ n ∧ n ≤ 1048576 := by simp [numberOk]
def RK.bytes : RK → List Value
 | .mark t f => u8 1 :: (three t ++ [u8 (f + 1)])
 | .line i x => u8 2 :: (three i ++ itemBytes x)
 | .load i t m => u8 3 :: (three i ++ (three t ++ encB m))
def RK.frame (r : RK) : List Value := three r.bytes.length ++ r.bytes
end Go.Proofs.YtgpkgegpcgiokaaGreatDoor

namespace Go.Proofs.YtgpkgegpcgiokaaGreatDoor
set_option linter.all false
open Go.RowKit
def markCells (t f : Int) : List Value := [.int .i64 1, .int .i64 t, .int .i64 f, .int .i64 0, .int .i64 0, .int .i64 0, .bool false, .int .i64 0, .int .i64 0, .int .i64 0, .string { data := #[] }, .string { data := #[] }, .string { data := #[] }, .int .i64 0, .int .i64 0, .int .i64 0, .int .i64 0, .slice none 0 0, .int .i64 0, .slice none 0 0]
def lineCells (i : Int) (x : Itm) : List Value := [.int .i64 2, .int .i64 0, .int .i64 0, .int .i64 i, .int .i64 x.term, .int .i64 x.time, .bool x.nop, .int .i64 x.client, .int .i64 x.seq, .int .i64 x.cmd.kind, .string x.cmd.key, .string x.cmd.field, .string x.cmd.text, .int .i64 x.cmd.n, .int .i64 0, .int .i64 0, .int .i64 0, .slice none 0 0, .int .i64 0, .slice none 0 0]
def loadCells (i t : Int) (m : Mach) (E C : Value) : List Value := [.int .i64 3, .int .i64 0, .int .i64 0, .int .i64 0, .int .i64 0, .int .i64 0, .bool false, .int .i64 0, .int .i64 0, .int .i64 0, .string { data := #[] }, .string { data := #[] }, .string { data := #[] }, .int .i64 0, .int .i64 i, .int .i64 t, .int .i64 m.now, E, .int .i64 m.next, C]
/-- A row of cells is a record. -/
def RecAt (w : World) : RK → List Value → Prop
 | .mark t f, row => row = markCells t f
 | .line i x, row => row = lineCells i x
 | .load i t m, row => ∃ A n c B k d, row = loadCells i t m (.slice A n c) (.slice B k d) ∧ St w A n c m.ents ∧ Ci w B k d m.clis
theorem RecAt.bl {w w' : World} {r : RK} {row : List Value} (h : RecAt w r row) (hb : Below w.heap.size w w') : RecAt w' r row := by
 cases r with
 | mark t f => exact h
 | line i x => exact h
 | load i t m =>
  obtain ⟨A, n, c, B, k, d, h1, h2, h3⟩ := h
  exact ⟨A, n, c, B, k, d, h1, h2.bl hb, h3.bl hb⟩
theorem RecAt.grown {w w' : World} {g : Nat} {t : TypeId} {cs : Array Value} {r : RK} {row : List Value} (h : RecAt w r row) (R : Blk w g t cs) (hg : w.grownBy w' (some g)) (h0 : 144 ≠ t := by decide) (h4 : 54 ≠ t := by decide) (h1 : t ≠ 187 := by decide) (h2 : t ≠ 9 := by decide) (h3 : t ≠ 190 := by decide) : RecAt w' r row := by
 cases r with
 | mark t f => exact h
 | line i x => exact h
 | load i t m =>
  obtain ⟨A, n, c, B, k, d, e1, e2, e3⟩ := h
  exact ⟨A, n, c, B, k, d, e1, e2.grown R hg h0 h1 h2 h3, e3.grown R hg h4 h1 h2 h3⟩
theorem RecAt.len {w : World} {r : RK} {row : List Value} (h : RecAt w r row) : row.length = 20 := by
 cases r with
 | mark t f => rw [show row = markCells t f from h]; rfl
 | line i x => rw [show row = lineCells i x from h]; rfl
 | load i t m => obtain ⟨A, n, c, B, k, d, rfl, _⟩ := h; rfl
theorem RecAt.one {w : World} {r : RK} {row : List Value} (h : RecAt w r row) : ∀ u ∈ row, u.oneCell' = true := by
 have key : ∀ u ∈ row, u.oneCell' = true := by
  cases r with
  | mark t f => rw [show row = markCells t f from h]; exact all_one rfl
  | line i x => rw [show row = lineCells i x from h]; exact all_one rfl
  | load i t m => obtain ⟨A, n, c, B, k, d, rfl, _⟩ := h; exact all_one rfl
 exact key
/-- A whole value is stored into a block of its type. -/
theorem wpList_store_blk {P : Program} {ops : Array Oper} {rest : List Oper} {op : Oper} {a : Act} {w : World} {Q : Exit → Act → World → Prop} (hgd : op.guard = none) (ty : TypeId) (x y : Operand) (ho : op.op = .store ty x y)
  {b : Nat} {cs cells : Array Value} (hx : a.eval x = .pointer (some ⟨b, 0, none⟩)) (hy : a.eval y = .agg cells) (hB : Blk w b ty cs) (hsz : cs.size = cells.size) (hi : (P.info? ty).map (·.size) = some cells.size) (h1 : ∀ u ∈ cells.toList, u.oneCell' = true)
  (h : ∀ w', Blk w' b ty cells → w.grownBy w' (some b) → w'.heap.size = w.heap.size → wpList P ops Q rest (a.put op.dst undef) w') : wpList P ops Q (op :: rest) a w := by
 have hrun := run_storeVar_row (P := P) w b ty ty cs cells hB hi hsz (Array.all_eq_true_iff_forall_mem.2 fun v hv => h1 v (by simpa using hv))
 refine wpList_plain hgd fun _ hK => ?_
 unfold Oper.wp execOp
 simp only [ho, hx, hy, Instr.storeAt, Instr.sureAddr, Sem.run_bind, Sem.run_pure, Result.andThen_ok, hrun]
 refine hK _ _ (h _ ?_ (grown_setRow w b cells) ?_)
 ·exact setRow_heap w b cs cells ty (0, 0) hB
 ·exact size_setRow w b cells
set_option maxHeartbeats 4000000 in
set_option maxRecDepth 100000 in
theorem noSnap_none (w : World) : Calls Tryz.prog 77 #[.agg #[.int .i64 0, .int .i64 0, .int .i64 0, .slice none 0 0, .int .i64 0, .slice none 0 0]] w fun e w' => e = .returned (.bool true) ∧ Below w.heap.size w w' := by
 have T0 := (Blk.new w 63 #[.int .i64 0, .int .i64 0, .int .i64 0, .slice none 0 0, .int .i64 0, .slice none 0 0]).alloc (.cells #[.int .i64 0, .slice none 0 0, .int .i64 0, .slice none 0 0] 32)
 have M0 : Blk ((w.alloc (.cells #[.int .i64 0, .int .i64 0, .int .i64 0, .slice none 0 0, .int .i64 0, .slice none 0 0] 63)).alloc (.cells #[.int .i64 0, .slice none 0 0, .int .i64 0, .slice none 0 0] 32)) (w.heap.size + 1) 32 #[.int .i64 0, .slice none 0 0, .int .i64 0, .slice none 0 0] := Blk.new' _ _ _ (by simp)
 have q0 : Below w.heap.size w ((w.alloc (.cells #[.int .i64 0, .int .i64 0, .int .i64 0, .slice none 0 0, .int .i64 0, .slice none 0 0] 63)).alloc (.cells #[.int .i64 0, .slice none 0 0, .int .i64 0, .slice none 0 0] 32)) := below_by
 go_enter Tryz.func77, Tryz.ntmps77
 go_wp2_with fail
 go_ret
 exact ⟨rfl, q0⟩
set_option maxHeartbeats 8000000 in
set_option maxRecDepth 100000 in
theorem CheckMark_ok (t f : Int) (ht : numberOk t = true) (h0 : -1 ≤ f) (h1 : f < 3) (w : World) :
  Calls Tryz.prog 37 #[.agg #[.int .i64 1, .int .i64 t, .int .i64 f, .int .i64 0, .int .i64 0, .int .i64 0, .bool false, .int .i64 0, .int .i64 0, .int .i64 0, .string { data := #[] }, .string { data := #[] }, .string { data := #[] }, .int .i64 0, .int .i64 0, .int .i64 0, .int .i64 0, .slice none 0 0, .int .i64 0, .slice none 0 0]] w fun e w' => e = .returned (.int .i64 0) ∧ Below w.heap.size w w' := by
 have T0 := (Blk.new w 70 #[.int .i64 1, .int .i64 t, .int .i64 f, .int .i64 0, .int .i64 0, .int .i64 0, .bool false, .int .i64 0, .int .i64 0, .int .i64 0, .string { data := #[] }, .string { data := #[] }, .string { data := #[] }, .int .i64 0, .int .i64 0, .int .i64 0, .int .i64 0, .slice none 0 0, .int .i64 0, .slice none 0 0]).alloc (.cells #[.int .i64 0, .int .i64 0, .bool false, .int .i64 0, .int .i64 0, .int .i64 0, .string { data := #[] }, .string { data := #[] }, .string { data := #[] }, .int .i64 0] 68)
 have I0 := Blk.new (w.alloc (.cells #[.int .i64 1, .int .i64 t, .int .i64 f, .int .i64 0, .int .i64 0, .int .i64 0, .bool false, .int .i64 0, .int .i64 0, .int .i64 0, .string { data := #[] }, .string { data := #[] }, .string { data := #[] }, .int .i64 0, .int .i64 0, .int .i64 0, .int .i64 0, .slice none 0 0, .int .i64 0, .slice none 0 0] 70)) 68 #[.int .i64 0, .int .i64 0, .bool false, .int .i64 0, .int .i64 0, .int .i64 0, .string { data := #[] }, .string { data := #[] }, .string { data := #[] }, .int .i64 0]
 have q0 : Below w.heap.size w ((w.alloc (.cells #[.int .i64 1, .int .i64 t, .int .i64 f, .int .i64 0, .int .i64 0, .int .i64 0, .bool false, .int .i64 0, .int .i64 0, .int .i64 0, .string { data := #[] }, .string { data := #[] }, .string { data := #[] }, .int .i64 0, .int .i64 0, .int .i64 0, .int .i64 0, .slice none 0 0, .int .i64 0, .slice none 0 0] 70)).alloc (.cells #[.int .i64 0, .int .i64 0, .bool false, .int .i64 0, .int .i64 0, .int .i64 0, .string { data := #[] }, .string { data := #[] }, .string { data := #[] }, .int .i64 0] 68)) := below_by
 go_enter Tryz.func37, Tryz.ntmps37
 (try clear cT0 fT0); have cT0 := T0.cell; have fT0 := T0.frozen; (try clear cI0 fI0); have cI0 := I0.cell; have fI0 := I0.frozen
 go_wp2_with fail
 refine (noSnap_none _).mono ?_
 rintro e w1 ⟨rfl, hb1⟩
 replace T0 := T0.bl hb1; replace I0 := I0.bl hb1
 replace q0 := bstep q0 hb1
 clear hb1 cT0 fT0 cI0 fI0
 (try clear cT0 fT0); have cT0 := T0.cell; have fT0 := T0.frozen; (try clear cI0 fI0); have cI0 := I0.cell; have fI0 := I0.frozen
 go_wp2_with fail
 refine (tnumber_any t _).mono ?_
 rintro e w' ⟨rfl, rfl⟩
 rw [ht]
 go_wp2_with fail
 go_ret
 exact ⟨rfl, q0⟩
set_option maxHeartbeats 8000000 in
set_option maxRecDepth 100000 in
theorem CheckMark_bad (t f : Int) (ht : numberOk t = false) (w : World) :
  Calls Tryz.prog 37 #[.agg #[.int .i64 1, .int .i64 t, .int .i64 f, .int .i64 0, .int .i64 0, .int .i64 0, .bool false, .int .i64 0, .int .i64 0, .int .i64 0, .string { data := #[] }, .string { data := #[] }, .string { data := #[] }, .int .i64 0, .int .i64 0, .int .i64 0, .int .i64 0, .slice none 0 0, .int .i64 0, .slice none 0 0]] w fun e w' => e = .returned (.int .i64 2) ∧ Below w.heap.size w w' := by
 have T0 := (Blk.new w 70 #[.int .i64 1, .int .i64 t, .int .i64 f, .int .i64 0, .int .i64 0, .int .i64 0, .bool false, .int .i64 0, .int .i64 0, .int .i64 0, .string { data := #[] }, .string { data := #[] }, .string { data := #[] }, .int .i64 0, .int .i64 0, .int .i64 0, .int .i64 0, .slice none 0 0, .int .i64 0, .slice none 0 0]).alloc (.cells #[.int .i64 0, .int .i64 0, .bool false, .int .i64 0, .int .i64 0, .int .i64 0, .string { data := #[] }, .string { data := #[] }, .string { data := #[] }, .int .i64 0] 68)
 have I0 := Blk.new (w.alloc (.cells #[.int .i64 1, .int .i64 t, .int .i64 f, .int .i64 0, .int .i64 0, .int .i64 0, .bool false, .int .i64 0, .int .i64 0, .int .i64 0, .string { data := #[] }, .string { data := #[] }, .string { data := #[] }, .int .i64 0, .int .i64 0, .int .i64 0, .int .i64 0, .slice none 0 0, .int .i64 0, .slice none 0 0] 70)) 68 #[.int .i64 0, .int .i64 0, .bool false, .int .i64 0, .int .i64 0, .int .i64 0, .string { data := #[] }, .string { data := #[] }, .string { data := #[] }, .int .i64 0]
 have q0 : Below w.heap.size w ((w.alloc (.cells #[.int .i64 1, .int .i64 t, .int .i64 f, .int .i64 0, .int .i64 0, .int .i64 0, .bool false, .int .i64 0, .int .i64 0, .int .i64 0, .string { data := #[] }, .string { data := #[] }, .string { data := #[] }, .int .i64 0, .int .i64 0, .int .i64 0, .int .i64 0, .slice none 0 0, .int .i64 0, .slice none 0 0] 70)).alloc (.cells #[.int .i64 0, .int .i64 0, .bool false, .int .i64 0, .int .i64 0, .int .i64 0, .string { data := #[] }, .string { data := #[] }, .string { data := #[] }, .int .i64 0] 68)) := below_by
 go_enter Tryz.func37, Tryz.ntmps37
 (try clear cT0 fT0); have cT0 := T0.cell; have fT0 := T0.frozen; (try clear cI0 fI0); have cI0 := I0.cell; have fI0 := I0.frozen
 go_wp2_with fail
 refine (noSnap_none _).mono ?_
 rintro e w1 ⟨rfl, hb1⟩
 replace T0 := T0.bl hb1; replace I0 := I0.bl hb1
 replace q0 := bstep q0 hb1
 clear hb1 cT0 fT0 cI0 fI0
 (try clear cT0 fT0); have cT0 := T0.cell; have fT0 := T0.frozen; (try clear cI0 fI0); have cI0 := I0.cell; have fI0 := I0.frozen
 go_wp2_with fail
 refine (tnumber_any t _).mono ?_
 rintro e w' ⟨rfl, rfl⟩
 rw [ht]
 go_wp2_with fail
 go_ret
 exact ⟨rfl, q0⟩
set_option maxHeartbeats 8000000 in
set_option maxRecDepth 100000 in
theorem CheckLine_ok (i : Int) (x : Itm) (ht : numberOk i = true) (hx : checkItem x = 0) (w : World) :
  Calls Tryz.prog 37 #[.agg #[.int .i64 2, .int .i64 0, .int .i64 0, .int .i64 i, .int .i64 x.term, .int .i64 x.time, .bool x.nop, .int .i64 x.client, .int .i64 x.seq, .int .i64 x.cmd.kind, .string x.cmd.key, .string x.cmd.field, .string x.cmd.text, .int .i64 x.cmd.n, .int .i64 0, .int .i64 0, .int .i64 0, .slice none 0 0, .int .i64 0, .slice none 0 0]] w fun e w' => e = .returned (.int .i64 0) ∧ Below w.heap.size w w' := by
 have HC := hide (fun w => CheckItem_any x w)
 have T0 := (Blk.new w 70 #[.int .i64 2, .int .i64 0, .int .i64 0, .int .i64 i, .int .i64 x.term, .int .i64 x.time, .bool x.nop, .int .i64 x.client, .int .i64 x.seq, .int .i64 x.cmd.kind, .string x.cmd.key, .string x.cmd.field, .string x.cmd.text, .int .i64 x.cmd.n, .int .i64 0, .int .i64 0, .int .i64 0, .slice none 0 0, .int .i64 0, .slice none 0 0]).alloc (.cells #[.int .i64 0, .int .i64 0, .bool false, .int .i64 0, .int .i64 0, .int .i64 0, .string { data := #[] }, .string { data := #[] }, .string { data := #[] }, .int .i64 0] 68)
 have I0 := Blk.new (w.alloc (.cells #[.int .i64 2, .int .i64 0, .int .i64 0, .int .i64 i, .int .i64 x.term, .int .i64 x.time, .bool x.nop, .int .i64 x.client, .int .i64 x.seq, .int .i64 x.cmd.kind, .string x.cmd.key, .string x.cmd.field, .string x.cmd.text, .int .i64 x.cmd.n, .int .i64 0, .int .i64 0, .int .i64 0, .slice none 0 0, .int .i64 0, .slice none 0 0] 70)) 68 #[.int .i64 0, .int .i64 0, .bool false, .int .i64 0, .int .i64 0, .int .i64 0, .string { data := #[] }, .string { data := #[] }, .string { data := #[] }, .int .i64 0]
 have q0 : Below w.heap.size w ((w.alloc (.cells #[.int .i64 2, .int .i64 0, .int .i64 0, .int .i64 i, .int .i64 x.term, .int .i64 x.time, .bool x.nop, .int .i64 x.client, .int .i64 x.seq, .int .i64 x.cmd.kind, .string x.cmd.key, .string x.cmd.field, .string x.cmd.text, .int .i64 x.cmd.n, .int .i64 0, .int .i64 0, .int .i64 0, .slice none 0 0, .int .i64 0, .slice none 0 0] 70)).alloc (.cells #[.int .i64 0, .int .i64 0, .bool false, .int .i64 0, .int .i64 0, .int .i64 0, .string { data := #[] }, .string { data := #[] }, .string { data := #[] }, .int .i64 0] 68)) := below_by
 go_enter Tryz.func37, Tryz.ntmps37
 (try clear cT0 fT0); have cT0 := T0.cell; have fT0 := T0.frozen; (try clear cI0 fI0); have cI0 := I0.cell; have fI0 := I0.frozen
 go_wp2_with fail
 refine (noSnap_none _).mono ?_
 rintro e w1 ⟨rfl, hb1⟩
 replace T0 := T0.bl hb1; replace I0 := I0.bl hb1
 replace q0 := bstep q0 hb1
 clear hb1 cT0 fT0 cI0 fI0
 (try clear cT0 fT0); have cT0 := T0.cell; have fT0 := T0.frozen; (try clear cI0 fI0); have cI0 := I0.cell; have fI0 := I0.frozen
 go_wp2_with fail
 refine (tnumber_any i _).mono ?_
 rintro e w' ⟨rfl, rfl⟩
 rw [ht]
 go_wp2_with fail
 refine (HC.out _).mono ?_
 rintro e w2 ⟨rfl, hb2⟩
 rw [hx]
 have q2 := bstep q0 hb2
 go_wp2_with fail
 go_ret
 exact ⟨rfl, q2⟩
set_option maxHeartbeats 8000000 in
set_option maxRecDepth 100000 in
theorem CheckBad0 (w : World) :
  Calls Tryz.prog 37 #[.agg #[.int .i64 1, .int .i64 1, .int .i64 0, .int .i64 1, .int .i64 0, .int .i64 0, .bool false, .int .i64 0, .int .i64 0, .int .i64 0, .string { data := #[] }, .string { data := #[] }, .string { data := #[] }, .int .i64 0, .int .i64 0, .int .i64 0, .int .i64 0, .slice none 0 0, .int .i64 0, .slice none 0 0]] w fun e w' => e = .returned (.int .i64 8) ∧ Below w.heap.size w w' := by
 have T0 := (Blk.new w 70 #[.int .i64 1, .int .i64 1, .int .i64 0, .int .i64 1, .int .i64 0, .int .i64 0, .bool false, .int .i64 0, .int .i64 0, .int .i64 0, .string { data := #[] }, .string { data := #[] }, .string { data := #[] }, .int .i64 0, .int .i64 0, .int .i64 0, .int .i64 0, .slice none 0 0, .int .i64 0, .slice none 0 0]).alloc (.cells #[.int .i64 0, .int .i64 0, .bool false, .int .i64 0, .int .i64 0, .int .i64 0, .string { data := #[] }, .string { data := #[] }, .string { data := #[] }, .int .i64 0] 68)
 have I0 := Blk.new (w.alloc (.cells #[.int .i64 1, .int .i64 1, .int .i64 0, .int .i64 1, .int .i64 0, .int .i64 0, .bool false, .int .i64 0, .int .i64 0, .int .i64 0, .string { data := #[] }, .string { data := #[] }, .string { data := #[] }, .int .i64 0, .int .i64 0, .int .i64 0, .int .i64 0, .slice none 0 0, .int .i64 0, .slice none 0 0] 70)) 68 #[.int .i64 0, .int .i64 0, .bool false, .int .i64 0, .int .i64 0, .int .i64 0, .string { data := #[] }, .string { data := #[] }, .string { data := #[] }, .int .i64 0]
 have q0 : Below w.heap.size w ((w.alloc (.cells #[.int .i64 1, .int .i64 1, .int .i64 0, .int .i64 1, .int .i64 0, .int .i64 0, .bool false, .int .i64 0, .int .i64 0, .int .i64 0, .string { data := #[] }, .string { data := #[] }, .string { data := #[] }, .int .i64 0, .int .i64 0, .int .i64 0, .int .i64 0, .slice none 0 0, .int .i64 0, .slice none 0 0] 70)).alloc (.cells #[.int .i64 0, .int .i64 0, .bool false, .int .i64 0, .int .i64 0, .int .i64 0, .string { data := #[] }, .string { data := #[] }, .string { data := #[] }, .int .i64 0] 68)) := below_by
 go_enter Tryz.func37, Tryz.ntmps37
 (try clear cT0 fT0); have cT0 := T0.cell; have fT0 := T0.frozen; (try clear cI0 fI0); have cI0 := I0.cell; have fI0 := I0.frozen
 go_wp2_with fail
 go_ret
 exact ⟨rfl, q0⟩
set_option maxHeartbeats 8000000 in
set_option maxRecDepth 100000 in
theorem CheckBad1 (w : World) :
  Calls Tryz.prog 37 #[.agg #[.int .i64 2, .int .i64 0, .int .i64 (-1), .int .i64 1, .int .i64 1, .int .i64 0, .bool true, .int .i64 0, .int .i64 0, .int .i64 0, .string { data := #[] }, .string { data := #[] }, .string { data := #[] }, .int .i64 0, .int .i64 0, .int .i64 0, .int .i64 0, .slice none 0 0, .int .i64 0, .slice none 0 0]] w fun e w' => e = .returned (.int .i64 8) ∧ Below w.heap.size w w' := by
 have T0 := (Blk.new w 70 #[.int .i64 2, .int .i64 0, .int .i64 (-1), .int .i64 1, .int .i64 1, .int .i64 0, .bool true, .int .i64 0, .int .i64 0, .int .i64 0, .string { data := #[] }, .string { data := #[] }, .string { data := #[] }, .int .i64 0, .int .i64 0, .int .i64 0, .int .i64 0, .slice none 0 0, .int .i64 0, .slice none 0 0]).alloc (.cells #[.int .i64 0, .int .i64 0, .bool false, .int .i64 0, .int .i64 0, .int .i64 0, .string { data := #[] }, .string { data := #[] }, .string { data := #[] }, .int .i64 0] 68)
 have I0 := Blk.new (w.alloc (.cells #[.int .i64 2, .int .i64 0, .int .i64 (-1), .int .i64 1, .int .i64 1, .int .i64 0, .bool true, .int .i64 0, .int .i64 0, .int .i64 0, .string { data := #[] }, .string { data := #[] }, .string { data := #[] }, .int .i64 0, .int .i64 0, .int .i64 0, .int .i64 0, .slice none 0 0, .int .i64 0, .slice none 0 0] 70)) 68 #[.int .i64 0, .int .i64 0, .bool false, .int .i64 0, .int .i64 0, .int .i64 0, .string { data := #[] }, .string { data := #[] }, .string { data := #[] }, .int .i64 0]
 have q0 : Below w.heap.size w ((w.alloc (.cells #[.int .i64 2, .int .i64 0, .int .i64 (-1), .int .i64 1, .int .i64 1, .int .i64 0, .bool true, .int .i64 0, .int .i64 0, .int .i64 0, .string { data := #[] }, .string { data := #[] }, .string { data := #[] }, .int .i64 0, .int .i64 0, .int .i64 0, .int .i64 0, .slice none 0 0, .int .i64 0, .slice none 0 0] 70)).alloc (.cells #[.int .i64 0, .int .i64 0, .bool false, .int .i64 0, .int .i64 0, .int .i64 0, .string { data := #[] }, .string { data := #[] }, .string { data := #[] }, .int .i64 0] 68)) := below_by
 go_enter Tryz.func37, Tryz.ntmps37
 (try clear cT0 fT0); have cT0 := T0.cell; have fT0 := T0.frozen; (try clear cI0 fI0); have cI0 := I0.cell; have fI0 := I0.frozen
 go_wp2_with fail
 go_ret
 exact ⟨rfl, q0⟩
theorem rec_size : (Tryz.prog.info? 70).map (·.size) = some 20 := by kernel_rfl
end Go.Proofs.YtgpkgegpcgiokaaGreatDoor

namespace Go.Proofs.YtgpkgegpcgiokaaGreatDoor
set_option linter.all false
open Go.RowKit
set_option maxHeartbeats 4000000 in
set_option maxRecDepth 100000 in
theorem CheckKind_bad (v1 v2 v3 v4 v5 v6 v7 v8 v9 v10 v11 v12 v13 v14 v15 v16 v17 v18 v19 : Value) (w : World) :
  Calls Tryz.prog 37 #[.agg #[.int .i64 4, v1, v2, v3, v4, v5, v6, v7, v8, v9, v10, v11, v12, v13, v14, v15, v16, v17, v18, v19]] w fun e w' => e = .returned (.int .i64 3) ∧ Below w.heap.size w w' := by
 have T0 := Blk.new w 70 #[.int .i64 4, v1, v2, v3, v4, v5, v6, v7, v8, v9, v10, v11, v12, v13, v14, v15, v16, v17, v18, v19]
 have q0 : Below w.heap.size w (w.alloc (.cells #[.int .i64 4, v1, v2, v3, v4, v5, v6, v7, v8, v9, v10, v11, v12, v13, v14, v15, v16, v17, v18, v19] 70)) := below_by
 go_enter Tryz.func37, Tryz.ntmps37
 (try clear cT0 fT0); have cT0 := T0.cell; have fT0 := T0.frozen
 go_wp2_with fail
 go_ret
 exact ⟨rfl, q0⟩
theorem i64_nil : I64 0 := ⟨by decide, by decide⟩
structure NoteD where
 kind : Int
 a : Int
 b : Int
 deeds : List DeedD
def NoteD.ok (x : NoteD) : Prop := I64 x.kind ∧ I64 x.a ∧ I64 x.b ∧ ∀ d ∈ x.deeds, d.ok
def firstD (x : NoteD) : DeedD := match x.deeds with
 | [] => ⟨x.a, 0, 0, ⟨0, 0, 0, 0, { data := #[] }⟩⟩
 | d :: _ => d
def recOf (x : NoteD) : RK :=
 if picked x.kind 3 = 0 then .mark (1 + picked x.a 99) (picked x.b 4 - 1)
 else if picked x.kind 3 = 1 then .line (1 + picked x.a 99) (itemOf (firstD x) x.b x.a)
 else .load (1 + picked x.a 40) (1 + picked x.b 5) (machOf (x.deeds.take 8))
theorem recOf_ok (x : NoteD) : (recOf x).Ok := by
 have a0 := picked_lo x.a 99 (by omega); have a1 := picked_hi x.a 99 (by omega)
 have b0 := picked_lo x.b 4 (by omega); have b1 := picked_hi x.b 4 (by omega)
 have c0 := picked_lo x.a 40 (by omega); have c1 := picked_hi x.a 40 (by omega)
 have d0 := picked_lo x.b 5 (by omega); have d1 := picked_hi x.b 5 (by omega)
 unfold recOf
 split
 ·exact ⟨number_iff.2 ⟨by omega, by omega⟩, by omega, by omega⟩
 ·split
  ·exact ⟨number_iff.2 ⟨by omega, by omega⟩, check_itemOf _ _ _⟩
  ·exact ⟨number_iff.2 ⟨by omega, by omega⟩, number_iff.2 ⟨by omega, by omega⟩, (machOf_inv _).ok⟩
def RecPost (r : RK) (w : World) (e : Ending) (w' : World) : Prop := ∃ row, e = .returned (.agg row.toArray) ∧ RecAt w' r row ∧ Below w.heap.size w w'
set_option maxHeartbeats 16000000 in
set_option maxRecDepth 100000 in
theorem record_any (x : NoteD) (hx : x.ok) (A : Option Addr) (n c : Nat) (w : World) (hS : Sl w 8 A n c (deedRows x.deeds)) (hN : Noth w) :
  Calls Tryz.prog 54 #[.agg #[.int .i64 x.kind, .int .i64 x.a, .int .i64 x.b, .slice A n c]] w (RecPost (recOf x) w) := by
 obtain ⟨hk, ha, hb, hd⟩ := hx
 have hn := deed_len hS
 have hfd : firstD x = (match x.deeds with | [] => ⟨x.a, 0, 0, ⟨0, 0, 0, 0, { data := #[] }⟩⟩ | d :: _ => d) := rfl
 have p0 := picked_lo x.kind 3 (by omega); have p1 := picked_hi x.kind 3 (by omega)
 have hpk := fun w => picked_any x.kind 3 w hk.1 hk.2 (by omega) (by omega)
 have hpa := fun w => picked_any x.a 99 w ha.1 ha.2 (by omega) (by omega)
 have hpb := fun w => picked_any x.b 4 w hb.1 hb.2 (by omega) (by omega)
 have a0 := picked_lo x.a 99 (by omega); have a1 := picked_hi x.a 99 (by omega)
 have b0 := picked_lo x.b 4 (by omega); have b1 := picked_hi x.b 4 (by omega)
 have hsn := fun w' (q : Below w.heap.size w w') => snap_any A n c x.deeds x.a x.b w' (hS.below q) hd (hN.bl q) ha hb
 have hit := fun d (h : DeedD.ok d) w => Item_any d h x.b x.a w hb ha
 obtain ⟨R, hR⟩ : ∃ R, R = recOf x := ⟨_, rfl⟩
 rw [← hR]
 unfold recOf at hR
 rw [hfd] at hR
 clear hfd
 obtain ⟨kd, a, b, l⟩ := x
 simp only at *
 generalize picked kd 3 = p at *
 generalize picked a 99 = pa at *
 generalize picked b 4 = pb at *
 have wa : IntKind.i64.wrap (1 + pa) = 1 + pa := IntWalk.i64_in _ (by omega)
 have wb : IntKind.i64.wrap (pb - 1) = pb - 1 := IntWalk.i64_in _ (by omega)
 have HR := hide hR; have HPK := hide hpk; have HPA := hide hpa; have HPB := hide hpb; have HSN := hide hsn; have HIT := hide hit
 clear hR hpk hpa hpb hsn hit hk
 have N0 := (Blk.new w 112 #[.int .i64 kd, .int .i64 a, .int .i64 b, .slice A n c]).alloc (.cells #[.int .i64 0, .int .i64 0, .int .i64 0, .int .i64 0, .int .i64 0, .int .i64 0, .bool false, .int .i64 0, .int .i64 0, .int .i64 0, .string { data := #[] }, .string { data := #[] }, .string { data := #[] }, .int .i64 0, .int .i64 0, .int .i64 0, .int .i64 0, .slice none 0 0, .int .i64 0, .slice none 0 0] 70)
 have R0 : Blk ((w.alloc (.cells #[.int .i64 kd, .int .i64 a, .int .i64 b, .slice A n c] 112)).alloc (.cells #[.int .i64 0, .int .i64 0, .int .i64 0, .int .i64 0, .int .i64 0, .int .i64 0, .bool false, .int .i64 0, .int .i64 0, .int .i64 0, .string { data := #[] }, .string { data := #[] }, .string { data := #[] }, .int .i64 0, .int .i64 0, .int .i64 0, .int .i64 0, .slice none 0 0, .int .i64 0, .slice none 0 0] 70)) (w.heap.size + 1) 70 #[.int .i64 0, .int .i64 0, .int .i64 0, .int .i64 0, .int .i64 0, .int .i64 0, .bool false, .int .i64 0, .int .i64 0, .int .i64 0, .string { data := #[] }, .string { data := #[] }, .string { data := #[] }, .int .i64 0, .int .i64 0, .int .i64 0, .int .i64 0, .slice none 0 0, .int .i64 0, .slice none 0 0] := Blk.new' _ _ _ (by simp)
 have q0 : Below w.heap.size w ((w.alloc (.cells #[.int .i64 kd, .int .i64 a, .int .i64 b, .slice A n c] 112)).alloc (.cells #[.int .i64 0, .int .i64 0, .int .i64 0, .int .i64 0, .int .i64 0, .int .i64 0, .bool false, .int .i64 0, .int .i64 0, .int .i64 0, .string { data := #[] }, .string { data := #[] }, .string { data := #[] }, .int .i64 0, .int .i64 0, .int .i64 0, .int .i64 0, .slice none 0 0, .int .i64 0, .slice none 0 0] 70)) := below_by
 go_enter Tryz.func54, Tryz.ntmps54
 go_wp2_with fail
 refine (HPK.out _).mono ?_
 rintro e w' ⟨rfl, rfl⟩
 obtain ⟨w0, hw0⟩ : ∃ w0, w0 = (w.alloc (.cells #[.int .i64 kd, .int .i64 a, .int .i64 b, .slice A n c] 112)).alloc (.cells #[.int .i64 0, .int .i64 0, .int .i64 0, .int .i64 0, .int .i64 0, .int .i64 0, .bool false, .int .i64 0, .int .i64 0, .int .i64 0, .string { data := #[] }, .string { data := #[] }, .string { data := #[] }, .int .i64 0, .int .i64 0, .int .i64 0, .int .i64 0, .slice none 0 0, .int .i64 0, .slice none 0 0] 70) := ⟨_, rfl⟩
 rw [← hw0] at N0 R0 q0 ⊢
 clear hw0
 have S0 := hS.below q0
 have hrl := R0.lt
 have hnl := N0.lt
 rcases (by omega : p = 0 ∨ p = 1 ∨ p = 2) with rfl | rfl | rfl
 ·have HR := hide (show R = .mark (1 + pa) (pb - 1) from by rw [HR.out]; rfl)
  go_wp2_with fail
  refine wp_region_x (l := []) (S := fun w' => w'.cell? ⟨w.heap.size, 1, none⟩ = some (.int .i64 a) ∧ w'.cell? ⟨w.heap.size, 2, none⟩ = some (.int .i64 b)) (by kernel_rfl) ⟨N0.drew.cell 1, N0.drew.cell 2⟩ (fun hS => ?_)
  replace R0 := R0.drew
  have q1 := q0.drew
  have N1 := N0.drew
  obtain ⟨wd, hwd⟩ : ∃ wd, wd = w0.drew := ⟨_, rfl⟩
  rw [← hwd] at hS R0 q1 N1 ⊢
  have hsd : wd.heap.size = w0.heap.size := by rw [hwd]; rfl
  rw [← hsd] at hrl hnl
  clear hwd hsd q0 N0
  refine wpAnyX_tk (i := 0) (v := ?xv0m) rfl (Or.inl ⟨by rfl, ?xh0m⟩) ?xr0m; (case xh0m => (intro w hSw; (try dsimp only at hSw); go_simp; (try with_reducible rfl))); (try simp only [Act.put, List.setIfInBounds_toArray, List.set_cons_zero, List.set_cons_succ, List.getElem_toArray, List.getElem_cons_zero, List.getElem_cons_succ])
  refine wpAnyX_tk (i := 1) (v := ?xv1m) rfl (Or.inl ⟨by rfl, ?xh1m⟩) ?xr1m; (case xh1m => (intro w hSw; (try dsimp only at hSw); go_simp; (try with_reducible rfl))); (try simp only [Act.put, List.setIfInBounds_toArray, List.set_cons_zero, List.set_cons_succ, List.getElem_toArray, List.getElem_cons_zero, List.getElem_cons_succ])
  refine wpAnyX_tk (i := 4) (v := ?xv4m) rfl (Or.inl ⟨by rfl, ?xh4m⟩) ?xr4m; (case xh4m => (intro w hSw; (try dsimp only at hSw); go_simp; (try with_reducible rfl))); (try simp only [Act.put, List.setIfInBounds_toArray, List.set_cons_zero, List.set_cons_succ, List.getElem_toArray, List.getElem_cons_zero, List.getElem_cons_succ])
  refine wpAnyX_tk (i := 5) (v := ?xv5m) rfl (Or.inl ⟨by rfl, ?xh5m⟩) ?xr5m; (case xh5m => (intro w hSw; (try dsimp only at hSw); go_simp; (try with_reducible rfl))); (try simp only [Act.put, List.setIfInBounds_toArray, List.set_cons_zero, List.set_cons_succ, List.getElem_toArray, List.getElem_cons_zero, List.getElem_cons_succ])
  refine wpAnyX_one (i := 2) (by kernel_rfl) rfl (by rfl) (fun K hK => ?_); (try simp only [List.getElem_toArray, List.getElem_cons_zero, List.getElem_cons_succ])
  go_wp2_with fail
  refine (HPA.out _).mono ?_
  rintro e w' ⟨rfl, rfl⟩
  go_wp2_with fail
  refine hK.out _ _ (Or.inr hS) (fun hS => ?_)
  replace hS := hS.resolve_left (by decide)
  clear hK K
  refine wpAnyX_tk (i := 3) (v := ?xv3m) rfl (Or.inl ⟨by rfl, ?xh3m⟩) ?xr3m; (case xh3m => (intro w hSw; (try dsimp only at hSw); go_simp; (try with_reducible rfl))); (try simp only [Act.put, List.setIfInBounds_toArray, List.set_cons_zero, List.set_cons_succ, List.getElem_toArray, List.getElem_cons_zero, List.getElem_cons_succ])
  refine wpAnyX_one (i := 6) (by kernel_rfl) rfl (by rfl) (fun K hK => ?_); (try simp only [List.getElem_toArray, List.getElem_cons_zero, List.getElem_cons_succ])
  go_wp2_with fail
  refine (HPB.out _).mono ?_
  rintro e w' ⟨rfl, rfl⟩
  go_wp2_with fail
  refine hK.out _ _ (Or.inr hS) (fun hS => ?_)
  replace hS := hS.resolve_left (by decide)
  clear hK K
  refine wpAnyX_tk (i := 7) (v := ?xv7m) rfl (Or.inl ⟨by rfl, ?xh7m⟩) ?xr7m; (case xh7m => (intro w hSw; (try dsimp only at hSw); go_simp; (try with_reducible rfl))); (try simp only [Act.put, List.setIfInBounds_toArray, List.set_cons_zero, List.set_cons_succ, List.getElem_toArray, List.getElem_cons_zero, List.getElem_cons_succ])
  refine wpAnyX_tk (i := 8) (v := ?xv8m) rfl (Or.inl ⟨by rfl, ?xh8m⟩) ?xr8m; (case xh8m => (intro w hSw; (try dsimp only at hSw); go_simp; (try with_reducible rfl))); (try simp only [Act.put, List.setIfInBounds_toArray, List.set_cons_zero, List.set_cons_succ, List.getElem_toArray, List.getElem_cons_zero, List.getElem_cons_succ])
  refine wpAnyX_one (i := 9) (by kernel_rfl) rfl (by rfl) (fun K hK => ?_); (try simp only [List.getElem_toArray, List.getElem_cons_zero, List.getElem_cons_succ])
  refine wpList_store_blk rfl 70 _ _ rfl (cells := #[.int .i64 1, .int .i64 (1 + pa), .int .i64 (pb - 1), .int .i64 0, .int .i64 0, .int .i64 0, .bool false, .int .i64 0, .int .i64 0, .int .i64 0, .string { data := #[] }, .string { data := #[] }, .string { data := #[] }, .int .i64 0, .int .i64 0, .int .i64 0, .int .i64 0, .slice none 0 0, .int .i64 0, .slice none 0 0]) rfl rfl R0 rfl rec_size (all_one rfl) ?_
  intro w9 Z9 gr9 sz9
  have HP := hide (show RecPost R w (.returned (.agg #[.int .i64 1, .int .i64 (1 + pa), .int .i64 (pb - 1), .int .i64 0, .int .i64 0, .int .i64 0, .bool false, .int .i64 0, .int .i64 0, .int .i64 0, .string { data := #[] }, .string { data := #[] }, .string { data := #[] }, .int .i64 0, .int .i64 0, .int .i64 0, .int .i64 0, .slice none 0 0, .int .i64 0, .slice none 0 0])) _ from ⟨_, rfl, by rw [HR.out]; rfl, below_grow q1 gr9 q1.size (by omega)⟩)
  refine hK.out _ _ (Or.inr ⟨(grown_blk N1 gr9 (by omega)).cell 1, (grown_blk N1 gr9 (by omega)).cell 2⟩) (fun _ => ?_)
  clear hK K
  refine wpAnyX_done (by kernel_rfl) ?_ _
  clear gr9 sz9 R0
  go_wp2_with fail
  have hlv : (loadVar 70 ⟨w.heap.size + 1, 0, none⟩).run Tryz.prog w9 = .ok (.agg #[.int .i64 1, .int .i64 (1 + pa), .int .i64 (pb - 1), .int .i64 0, .int .i64 0, .int .i64 0, .bool false, .int .i64 0, .int .i64 0, .int .i64 0, .string { data := #[] }, .string { data := #[] }, .string { data := #[] }, .int .i64 0, .int .i64 0, .int .i64 0, .int .i64 0, .slice none 0 0, .int .i64 0, .slice none 0 0]) w9 := run_loadVar_row w9 _ _ _ _ (0, 0) _ Z9 Tryz.underlying70 rfl rec_size
  refine bodyPost_ret (v := .agg #[.int .i64 1, .int .i64 (1 + pa), .int .i64 (pb - 1), .int .i64 0, .int .i64 0, .int .i64 0, .bool false, .int .i64 0, .int .i64 0, .int .i64 0, .string { data := #[] }, .string { data := #[] }, .string { data := #[] }, .int .i64 0, .int .i64 0, .int .i64 0, .int .i64 0, .slice none 0 0, .int .i64 0, .slice none 0 0]) ?_ rfl HP.out
  simp only [results, Tryz.results54]
  simp [asAddr, Act.put, hlv]
 ·rcases l with _ | ⟨d, l⟩
  ·have hn0 : n = 0 := hn.symm
   subst hn0
   have HRL : Hid (R = .line (1 + pa) (itemOf ⟨a, 0, 0, ⟨0, 0, 0, 0, { data := #[] }⟩⟩ b a)) := by rw [HR.out]; rfl
   have hX := HIT.out ⟨a, 0, 0, ⟨0, 0, 0, 0, { data := #[] }⟩⟩ ⟨ha, i64_nil, i64_nil, i64_nil, i64_nil, i64_nil, i64_nil, Nat.zero_le _⟩
   generalize itemOf ⟨a, 0, 0, ⟨0, 0, 0, 0, { data := #[] }⟩⟩ b a = x at hX HRL
   simp only [Itm.cells, DeedD.cells] at hX
   have HX := hide hX
   clear hX
   have D0 : Blk (w0.alloc (.cells #[.int .i64 a, .int .i64 0, .int .i64 0, .int .i64 0, .int .i64 0, .int .i64 0, .int .i64 0, .string { data := #[] }] 26)) w0.heap.size 26 #[.int .i64 a, .int .i64 0, .int .i64 0, .int .i64 0, .int .i64 0, .int .i64 0, .int .i64 0, .string { data := #[] }] := Blk.new _ _ _
   have N1 := N0.alloc (.cells #[.int .i64 a, .int .i64 0, .int .i64 0, .int .i64 0, .int .i64 0, .int .i64 0, .int .i64 0, .string { data := #[] }] 26)
   have R1 := R0.alloc (.cells #[.int .i64 a, .int .i64 0, .int .i64 0, .int .i64 0, .int .i64 0, .int .i64 0, .int .i64 0, .string { data := #[] }] 26)
   have q1 : Below w.heap.size w (w0.alloc (.cells #[.int .i64 a, .int .i64 0, .int .i64 0, .int .i64 0, .int .i64 0, .int .i64 0, .int .i64 0, .string { data := #[] }] 26)) := below_by
   (try clear cN0 fN0); have cN0 := N0.cell; have fN0 := N0.frozen
   go_wp2_with fail
   refine wp_region_x (l := []) (S := fun w' => w'.cell? ⟨w.heap.size, 1, none⟩ = some (.int .i64 a) ∧ w'.cell? ⟨w.heap.size, 2, none⟩ = some (.int .i64 b) ∧ w'.cell? ⟨w0.heap.size, 0, none⟩ = some (.int .i64 a) ∧ w'.cell? ⟨w0.heap.size, 1, none⟩ = some (.int .i64 0) ∧ w'.cell? ⟨w0.heap.size, 2, none⟩ = some (.int .i64 0) ∧ w'.cell? ⟨w0.heap.size, 3, none⟩ = some (.int .i64 0) ∧ w'.cell? ⟨w0.heap.size, 4, none⟩ = some (.int .i64 0) ∧ w'.cell? ⟨w0.heap.size, 5, none⟩ = some (.int .i64 0) ∧ w'.cell? ⟨w0.heap.size, 6, none⟩ = some (.int .i64 0) ∧ w'.cell? ⟨w0.heap.size, 7, none⟩ = some (.string { data := #[] })) (by kernel_rfl) ⟨N1.drew.cell 1, N1.drew.cell 2, D0.drew.cell 0, D0.drew.cell 1, D0.drew.cell 2, D0.drew.cell 3, D0.drew.cell 4, D0.drew.cell 5, D0.drew.cell 6, D0.drew.cell 7⟩ (fun hS => ?_)
   replace N1 := N1.drew
   replace R1 := R1.drew
   replace D0 := D0.drew
   replace q1 := q1.drew
   obtain ⟨wd, hwd⟩ : ∃ wd, wd = (w0.alloc (.cells #[.int .i64 a, .int .i64 0, .int .i64 0, .int .i64 0, .int .i64 0, .int .i64 0, .int .i64 0, .string { data := #[] }] 26)).drew := ⟨_, rfl⟩
   rw [← hwd] at hS R1 q1 N1 D0 ⊢
   clear hwd q0 N0 R0 cN0 fN0
   refine wpAnyX_tk (i := 0) (v := ?xv0n) rfl (Or.inl ⟨by rfl, ?xh0n⟩) ?xr0n; (case xh0n => (intro w hSw; (try dsimp only at hSw); go_simp; (try with_reducible rfl))); (try simp only [Act.put, List.setIfInBounds_toArray, List.set_cons_zero, List.set_cons_succ, List.getElem_toArray, List.getElem_cons_zero, List.getElem_cons_succ])
   refine wpAnyX_tk (i := 1) (v := ?xv1n) rfl (Or.inl ⟨by rfl, ?xh1n⟩) ?xr1n; (case xh1n => (intro w hSw; (try dsimp only at hSw); go_simp; (try with_reducible rfl))); (try simp only [Act.put, List.setIfInBounds_toArray, List.set_cons_zero, List.set_cons_succ, List.getElem_toArray, List.getElem_cons_zero, List.getElem_cons_succ])
   refine wpAnyX_tk (i := 4) (v := ?xv4n) rfl (Or.inl ⟨by rfl, ?xh4n⟩) ?xr4n; (case xh4n => (intro w hSw; (try dsimp only at hSw); go_simp; (try with_reducible rfl))); (try simp only [Act.put, List.setIfInBounds_toArray, List.set_cons_zero, List.set_cons_succ, List.getElem_toArray, List.getElem_cons_zero, List.getElem_cons_succ])
   refine wpAnyX_tk (i := 5) (v := ?xv5n) rfl (Or.inl ⟨by rfl, ?xh5n⟩) ?xr5n; (case xh5n => (intro w hSw; (try dsimp only at hSw); go_simp; (try with_reducible rfl))); (try simp only [Act.put, List.setIfInBounds_toArray, List.set_cons_zero, List.set_cons_succ, List.getElem_toArray, List.getElem_cons_zero, List.getElem_cons_succ])
   refine wpAnyX_tk (i := 6) (v := ?xv6n) rfl (Or.inl ⟨by rfl, ?xh6n⟩) ?xr6n; (case xh6n => (intro w hSw; (try dsimp only at hSw); go_simp; (try with_reducible rfl))); (try simp only [Act.put, List.setIfInBounds_toArray, List.set_cons_zero, List.set_cons_succ, List.getElem_toArray, List.getElem_cons_zero, List.getElem_cons_succ])
   refine wpAnyX_tk (i := 7) (v := ?xv7n) rfl (Or.inl ⟨by rfl, ?xh7n⟩) ?xr7n; (case xh7n => (intro w hSw; (try dsimp only at hSw); go_simp; (try with_reducible rfl))); (try simp only [Act.put, List.setIfInBounds_toArray, List.set_cons_zero, List.set_cons_succ, List.getElem_toArray, List.getElem_cons_zero, List.getElem_cons_succ])
   refine wpAnyX_tk (i := 8) (v := ?xv8n) rfl (Or.inl ⟨by rfl, ?xh8n⟩) ?xr8n; (case xh8n => (intro w hSw; (try dsimp only at hSw); go_simp; (try with_reducible rfl))); (try simp only [Act.put, List.setIfInBounds_toArray, List.set_cons_zero, List.set_cons_succ, List.getElem_toArray, List.getElem_cons_zero, List.getElem_cons_succ])
   refine wpAnyX_one (i := 2) (by kernel_rfl) rfl (by rfl) (fun K hK => ?_); (try simp only [List.getElem_toArray, List.getElem_cons_zero, List.getElem_cons_succ])
   go_wp2_with fail
   refine (HPA.out _).mono ?_
   rintro e w' ⟨rfl, rfl⟩
   go_wp2_with fail
   refine hK.out _ _ (Or.inr hS) (fun hS => ?_)
   replace hS := hS.resolve_left (by decide)
   clear hK K
   refine wpAnyX_tk (i := 3) (v := ?xv3n) rfl (Or.inl ⟨by rfl, ?xh3n⟩) ?xr3n; (case xh3n => (intro w hSw; (try dsimp only at hSw); go_simp; (try with_reducible rfl))); (try simp only [Act.put, List.setIfInBounds_toArray, List.set_cons_zero, List.set_cons_succ, List.getElem_toArray, List.getElem_cons_zero, List.getElem_cons_succ])
   refine wpAnyX_one (i := 9) (by kernel_rfl) rfl (by rfl) (fun K hK => ?_); (try simp only [List.getElem_toArray, List.getElem_cons_zero, List.getElem_cons_succ])
   go_wp2_with fail
   refine (HX.out _).mono ?_
   rintro e w2 ⟨rfl, hb2⟩
   go_wp2_with fail
   replace N1 := N1.below' hb2
   replace D0 := D0.below' hb2
   have R0 := R1.below' hb2
   replace q1 := bstep q1 hb2
   have hd0 := D0.lt
   refine hK.out _ _ (Or.inr ⟨N1.cell 1, N1.cell 2, D0.cell 0, D0.cell 1, D0.cell 2, D0.cell 3, D0.cell 4, D0.cell 5, D0.cell 6, D0.cell 7⟩) (fun hS => ?_)
   replace hS := hS.resolve_left (by decide)
   clear hK K hb2 R1
   refine wpAnyX_tk (i := 10) (v := ?xv10n) rfl (Or.inl ⟨by rfl, ?xh10n⟩) ?xr10n; (case xh10n => (intro w hSw; (try dsimp only at hSw); go_simp; (try with_reducible rfl))); (try simp only [Act.put, List.setIfInBounds_toArray, List.set_cons_zero, List.set_cons_succ, List.getElem_toArray, List.getElem_cons_zero, List.getElem_cons_succ])
   refine wpAnyX_one (i := 11) (by kernel_rfl) rfl (by rfl) (fun K hK => ?_); (try simp only [List.getElem_toArray, List.getElem_cons_zero, List.getElem_cons_succ])
   refine wpList_store_blk rfl 70 _ _ rfl (cells := #[.int .i64 2, .int .i64 0, .int .i64 0, .int .i64 (1 + pa), .int .i64 x.term, .int .i64 x.time, .bool x.nop, .int .i64 x.client, .int .i64 x.seq, .int .i64 x.cmd.kind, .string x.cmd.key, .string x.cmd.field, .string x.cmd.text, .int .i64 x.cmd.n, .int .i64 0, .int .i64 0, .int .i64 0, .slice none 0 0, .int .i64 0, .slice none 0 0]) rfl rfl R0 rfl rec_size (all_one rfl) ?_
   intro w9 Z9 gr9 sz9
   have HP := hide (show RecPost R w (.returned (.agg #[.int .i64 2, .int .i64 0, .int .i64 0, .int .i64 (1 + pa), .int .i64 x.term, .int .i64 x.time, .bool x.nop, .int .i64 x.client, .int .i64 x.seq, .int .i64 x.cmd.kind, .string x.cmd.key, .string x.cmd.field, .string x.cmd.text, .int .i64 x.cmd.n, .int .i64 0, .int .i64 0, .int .i64 0, .slice none 0 0, .int .i64 0, .slice none 0 0])) _ from ⟨_, rfl, by rw [HRL.out]; rfl, below_grow q1 gr9 q1.size (by omega)⟩)
   refine hK.out _ _ (Or.inr ⟨(grown_blk N1 gr9 (by omega)).cell 1, (grown_blk N1 gr9 (by omega)).cell 2, (grown_blk D0 gr9 (by omega)).cell 0, (grown_blk D0 gr9 (by omega)).cell 1, (grown_blk D0 gr9 (by omega)).cell 2, (grown_blk D0 gr9 (by omega)).cell 3, (grown_blk D0 gr9 (by omega)).cell 4, (grown_blk D0 gr9 (by omega)).cell 5, (grown_blk D0 gr9 (by omega)).cell 6, (grown_blk D0 gr9 (by omega)).cell 7⟩) (fun _ => ?_)
   clear hK K
   refine wpAnyX_done (by kernel_rfl) ?_ _
   clear gr9 sz9 R0
   go_wp2_with fail
   have hlv : (loadVar 70 ⟨w.heap.size + 1, 0, none⟩).run Tryz.prog w9 = .ok (.agg #[.int .i64 2, .int .i64 0, .int .i64 0, .int .i64 (1 + pa), .int .i64 x.term, .int .i64 x.time, .bool x.nop, .int .i64 x.client, .int .i64 x.seq, .int .i64 x.cmd.kind, .string x.cmd.key, .string x.cmd.field, .string x.cmd.text, .int .i64 x.cmd.n, .int .i64 0, .int .i64 0, .int .i64 0, .slice none 0 0, .int .i64 0, .slice none 0 0]) w9 := run_loadVar_row w9 _ _ _ _ (0, 0) _ Z9 Tryz.underlying70 rfl rec_size
   refine bodyPost_ret (v := .agg #[.int .i64 2, .int .i64 0, .int .i64 0, .int .i64 (1 + pa), .int .i64 x.term, .int .i64 x.time, .bool x.nop, .int .i64 x.client, .int .i64 x.seq, .int .i64 x.cmd.kind, .string x.cmd.key, .string x.cmd.field, .string x.cmd.text, .int .i64 x.cmd.n, .int .i64 0, .int .i64 0, .int .i64 0, .slice none 0 0, .int .i64 0, .slice none 0 0]) ?_ rfl HP.out
   simp only [results, Tryz.results54]
   simp [asAddr, Act.put, hlv]
  ·obtain ⟨b_, off, rfl, hbb, ⟨i0, i1, i2, i3, i4, i5, i6, i7⟩⟩ := S0.deed (k := 0) (by simp)
   simp only [List.getElem_cons_zero, Nat.zero_mul, Nat.add_zero] at i0 i1 i2 i3 i4 i5 i6 i7
   have hn0 : 0 < n := by rw [← hn]; simp
   have hn1 : (0 : Int) < (n : Int) := by omega
   have HRL : Hid (R = .line (1 + pa) (itemOf d b a)) := by rw [HR.out]; rfl
   have hX := HIT.out d (hd _ (List.mem_cons_self ..))
   generalize itemOf d b a = x at hX HRL
   simp only [Itm.cells, DeedD.cells] at hX
   have HX := hide hX
   clear hX
   have D0 : Blk (w0.alloc (.cells #[.int .i64 d.client, .int .i64 d.off, .int .i64 d.wait, .int .i64 d.raw.kind, .int .i64 d.raw.key, .int .i64 d.raw.field, .int .i64 d.raw.n, .string d.raw.text] 26)) w0.heap.size 26 #[.int .i64 d.client, .int .i64 d.off, .int .i64 d.wait, .int .i64 d.raw.kind, .int .i64 d.raw.key, .int .i64 d.raw.field, .int .i64 d.raw.n, .string d.raw.text] := Blk.new _ _ _
   have N1 := N0.alloc (.cells #[.int .i64 d.client, .int .i64 d.off, .int .i64 d.wait, .int .i64 d.raw.kind, .int .i64 d.raw.key, .int .i64 d.raw.field, .int .i64 d.raw.n, .string d.raw.text] 26)
   have R1 := R0.alloc (.cells #[.int .i64 d.client, .int .i64 d.off, .int .i64 d.wait, .int .i64 d.raw.kind, .int .i64 d.raw.key, .int .i64 d.raw.field, .int .i64 d.raw.n, .string d.raw.text] 26)
   have q1 : Below w.heap.size w (w0.alloc (.cells #[.int .i64 d.client, .int .i64 d.off, .int .i64 d.wait, .int .i64 d.raw.kind, .int .i64 d.raw.key, .int .i64 d.raw.field, .int .i64 d.raw.n, .string d.raw.text] 26)) := below_by
   (try clear cN0 fN0); have cN0 := N0.cell; have fN0 := N0.frozen
   go_wp2_with fail
   refine wp_region_x (l := []) (S := fun w' => w'.cell? ⟨w.heap.size, 1, none⟩ = some (.int .i64 a) ∧ w'.cell? ⟨w.heap.size, 2, none⟩ = some (.int .i64 b) ∧ w'.cell? ⟨w0.heap.size, 0, none⟩ = some (.int .i64 d.client) ∧ w'.cell? ⟨w0.heap.size, 1, none⟩ = some (.int .i64 d.off) ∧ w'.cell? ⟨w0.heap.size, 2, none⟩ = some (.int .i64 d.wait) ∧ w'.cell? ⟨w0.heap.size, 3, none⟩ = some (.int .i64 d.raw.kind) ∧ w'.cell? ⟨w0.heap.size, 4, none⟩ = some (.int .i64 d.raw.key) ∧ w'.cell? ⟨w0.heap.size, 5, none⟩ = some (.int .i64 d.raw.field) ∧ w'.cell? ⟨w0.heap.size, 6, none⟩ = some (.int .i64 d.raw.n) ∧ w'.cell? ⟨w0.heap.size, 7, none⟩ = some (.string d.raw.text)) (by kernel_rfl) ⟨N1.drew.cell 1, N1.drew.cell 2, D0.drew.cell 0, D0.drew.cell 1, D0.drew.cell 2, D0.drew.cell 3, D0.drew.cell 4, D0.drew.cell 5, D0.drew.cell 6, D0.drew.cell 7⟩ (fun hS => ?_)
   replace N1 := N1.drew
   replace R1 := R1.drew
   replace D0 := D0.drew
   replace q1 := q1.drew
   obtain ⟨wd, hwd⟩ : ∃ wd, wd = (w0.alloc (.cells #[.int .i64 d.client, .int .i64 d.off, .int .i64 d.wait, .int .i64 d.raw.kind, .int .i64 d.raw.key, .int .i64 d.raw.field, .int .i64 d.raw.n, .string d.raw.text] 26)).drew := ⟨_, rfl⟩
   rw [← hwd] at hS R1 q1 N1 D0 ⊢
   clear hwd q0 N0 R0 cN0 fN0
   refine wpAnyX_tk (i := 0) (v := ?xv0c) rfl (Or.inl ⟨by rfl, ?xh0c⟩) ?xr0c; (case xh0c => (intro w hSw; (try dsimp only at hSw); go_simp; (try with_reducible rfl))); (try simp only [Act.put, List.setIfInBounds_toArray, List.set_cons_zero, List.set_cons_succ, List.getElem_toArray, List.getElem_cons_zero, List.getElem_cons_succ])
   refine wpAnyX_tk (i := 1) (v := ?xv1c) rfl (Or.inl ⟨by rfl, ?xh1c⟩) ?xr1c; (case xh1c => (intro w hSw; (try dsimp only at hSw); go_simp; (try with_reducible rfl))); (try simp only [Act.put, List.setIfInBounds_toArray, List.set_cons_zero, List.set_cons_succ, List.getElem_toArray, List.getElem_cons_zero, List.getElem_cons_succ])
   refine wpAnyX_tk (i := 4) (v := ?xv4c) rfl (Or.inl ⟨by rfl, ?xh4c⟩) ?xr4c; (case xh4c => (intro w hSw; (try dsimp only at hSw); go_simp; (try with_reducible rfl))); (try simp only [Act.put, List.setIfInBounds_toArray, List.set_cons_zero, List.set_cons_succ, List.getElem_toArray, List.getElem_cons_zero, List.getElem_cons_succ])
   refine wpAnyX_tk (i := 5) (v := ?xv5c) rfl (Or.inl ⟨by rfl, ?xh5c⟩) ?xr5c; (case xh5c => (intro w hSw; (try dsimp only at hSw); go_simp; (try with_reducible rfl))); (try simp only [Act.put, List.setIfInBounds_toArray, List.set_cons_zero, List.set_cons_succ, List.getElem_toArray, List.getElem_cons_zero, List.getElem_cons_succ])
   refine wpAnyX_tk (i := 6) (v := ?xv6c) rfl (Or.inl ⟨by rfl, ?xh6c⟩) ?xr6c; (case xh6c => (intro w hSw; (try dsimp only at hSw); go_simp; (try with_reducible rfl))); (try simp only [Act.put, List.setIfInBounds_toArray, List.set_cons_zero, List.set_cons_succ, List.getElem_toArray, List.getElem_cons_zero, List.getElem_cons_succ])
   refine wpAnyX_tk (i := 7) (v := ?xv7c) rfl (Or.inl ⟨by rfl, ?xh7c⟩) ?xr7c; (case xh7c => (intro w hSw; (try dsimp only at hSw); go_simp; (try with_reducible rfl))); (try simp only [Act.put, List.setIfInBounds_toArray, List.set_cons_zero, List.set_cons_succ, List.getElem_toArray, List.getElem_cons_zero, List.getElem_cons_succ])
   refine wpAnyX_tk (i := 8) (v := ?xv8c) rfl (Or.inl ⟨by rfl, ?xh8c⟩) ?xr8c; (case xh8c => (intro w hSw; (try dsimp only at hSw); go_simp; (try with_reducible rfl))); (try simp only [Act.put, List.setIfInBounds_toArray, List.set_cons_zero, List.set_cons_succ, List.getElem_toArray, List.getElem_cons_zero, List.getElem_cons_succ])
   refine wpAnyX_one (i := 2) (by kernel_rfl) rfl (by rfl) (fun K hK => ?_); (try simp only [List.getElem_toArray, List.getElem_cons_zero, List.getElem_cons_succ])
   go_wp2_with fail
   refine (HPA.out _).mono ?_
   rintro e w' ⟨rfl, rfl⟩
   go_wp2_with fail
   refine hK.out _ _ (Or.inr hS) (fun hS => ?_)
   replace hS := hS.resolve_left (by decide)
   clear hK K
   refine wpAnyX_tk (i := 3) (v := ?xv3c) rfl (Or.inl ⟨by rfl, ?xh3c⟩) ?xr3c; (case xh3c => (intro w hSw; (try dsimp only at hSw); go_simp; (try with_reducible rfl))); (try simp only [Act.put, List.setIfInBounds_toArray, List.set_cons_zero, List.set_cons_succ, List.getElem_toArray, List.getElem_cons_zero, List.getElem_cons_succ])
   refine wpAnyX_one (i := 9) (by kernel_rfl) rfl (by rfl) (fun K hK => ?_); (try simp only [List.getElem_toArray, List.getElem_cons_zero, List.getElem_cons_succ])
   go_wp2_with fail
   refine (HX.out _).mono ?_
   rintro e w2 ⟨rfl, hb2⟩
   go_wp2_with fail
   replace N1 := N1.below' hb2
   replace D0 := D0.below' hb2
   have R0 := R1.below' hb2
   replace q1 := bstep q1 hb2
   have hd0 := D0.lt
   refine hK.out _ _ (Or.inr ⟨N1.cell 1, N1.cell 2, D0.cell 0, D0.cell 1, D0.cell 2, D0.cell 3, D0.cell 4, D0.cell 5, D0.cell 6, D0.cell 7⟩) (fun hS => ?_)
   replace hS := hS.resolve_left (by decide)
   clear hK K hb2 R1
   refine wpAnyX_tk (i := 10) (v := ?xv10c) rfl (Or.inl ⟨by rfl, ?xh10c⟩) ?xr10c; (case xh10c => (intro w hSw; (try dsimp only at hSw); go_simp; (try with_reducible rfl))); (try simp only [Act.put, List.setIfInBounds_toArray, List.set_cons_zero, List.set_cons_succ, List.getElem_toArray, List.getElem_cons_zero, List.getElem_cons_succ])
   refine wpAnyX_one (i := 11) (by kernel_rfl) rfl (by rfl) (fun K hK => ?_); (try simp only [List.getElem_toArray, List.getElem_cons_zero, List.getElem_cons_succ])
   refine wpList_store_blk rfl 70 _ _ rfl (cells := #[.int .i64 2, .int .i64 0, .int .i64 0, .int .i64 (1 + pa), .int .i64 x.term, .int .i64 x.time, .bool x.nop, .int .i64 x.client, .int .i64 x.seq, .int .i64 x.cmd.kind, .string x.cmd.key, .string x.cmd.field, .string x.cmd.text, .int .i64 x.cmd.n, .int .i64 0, .int .i64 0, .int .i64 0, .slice none 0 0, .int .i64 0, .slice none 0 0]) rfl rfl R0 rfl rec_size (all_one rfl) ?_
   intro w9 Z9 gr9 sz9
   have HP := hide (show RecPost R w (.returned (.agg #[.int .i64 2, .int .i64 0, .int .i64 0, .int .i64 (1 + pa), .int .i64 x.term, .int .i64 x.time, .bool x.nop, .int .i64 x.client, .int .i64 x.seq, .int .i64 x.cmd.kind, .string x.cmd.key, .string x.cmd.field, .string x.cmd.text, .int .i64 x.cmd.n, .int .i64 0, .int .i64 0, .int .i64 0, .slice none 0 0, .int .i64 0, .slice none 0 0])) _ from ⟨_, rfl, by rw [HRL.out]; rfl, below_grow q1 gr9 q1.size (by omega)⟩)
   refine hK.out _ _ (Or.inr ⟨(grown_blk N1 gr9 (by omega)).cell 1, (grown_blk N1 gr9 (by omega)).cell 2, (grown_blk D0 gr9 (by omega)).cell 0, (grown_blk D0 gr9 (by omega)).cell 1, (grown_blk D0 gr9 (by omega)).cell 2, (grown_blk D0 gr9 (by omega)).cell 3, (grown_blk D0 gr9 (by omega)).cell 4, (grown_blk D0 gr9 (by omega)).cell 5, (grown_blk D0 gr9 (by omega)).cell 6, (grown_blk D0 gr9 (by omega)).cell 7⟩) (fun _ => ?_)
   clear hK K
   refine wpAnyX_done (by kernel_rfl) ?_ _
   clear gr9 sz9 R0
   go_wp2_with fail
   have hlv : (loadVar 70 ⟨w.heap.size + 1, 0, none⟩).run Tryz.prog w9 = .ok (.agg #[.int .i64 2, .int .i64 0, .int .i64 0, .int .i64 (1 + pa), .int .i64 x.term, .int .i64 x.time, .bool x.nop, .int .i64 x.client, .int .i64 x.seq, .int .i64 x.cmd.kind, .string x.cmd.key, .string x.cmd.field, .string x.cmd.text, .int .i64 x.cmd.n, .int .i64 0, .int .i64 0, .int .i64 0, .slice none 0 0, .int .i64 0, .slice none 0 0]) w9 := run_loadVar_row w9 _ _ _ _ (0, 0) _ Z9 Tryz.underlying70 rfl rec_size
   refine bodyPost_ret (v := .agg #[.int .i64 2, .int .i64 0, .int .i64 0, .int .i64 (1 + pa), .int .i64 x.term, .int .i64 x.time, .bool x.nop, .int .i64 x.client, .int .i64 x.seq, .int .i64 x.cmd.kind, .string x.cmd.key, .string x.cmd.field, .string x.cmd.text, .int .i64 x.cmd.n, .int .i64 0, .int .i64 0, .int .i64 0, .slice none 0 0, .int .i64 0, .slice none 0 0]) ?_ rfl HP.out
   simp only [results, Tryz.results54]
   simp [asAddr, Act.put, hlv]
 ·have HR := hide (show R = .load (1 + picked a 40) (1 + picked b 5) (machOf (l.take 8)) from by rw [HR.out]; rfl)
  (try clear cN0 fN0); have cN0 := N0.cell; have fN0 := N0.frozen
  go_wp2_with fail
  refine (HSN.out _ q0).mono ?_
  rintro e w1 ⟨A1, n1, c1, B1, k1, d1, rfl, S1, C1, hb1⟩
  generalize machOf (l.take 8) = m at *
  generalize picked a 40 = pi at *
  generalize picked b 5 = pt at *
  replace R0 := R0.below' hb1
  have q1 := bstep q0 hb1
  clear hb1 cN0 fN0 N0 q0
  have hrl := R0.lt
  go_wp2_with (refine wpList_store_blk rfl 70 _ _ rfl (cells := #[.int .i64 3, .int .i64 0, .int .i64 0, .int .i64 0, .int .i64 0, .int .i64 0, .bool false, .int .i64 0, .int .i64 0, .int .i64 0, .string { data := #[] }, .string { data := #[] }, .string { data := #[] }, .int .i64 0, .int .i64 (1 + pi), .int .i64 (1 + pt), .int .i64 m.now, .slice A1 n1 c1, .int .i64 m.next, .slice B1 k1 d1]) rfl rfl R0 rfl rec_size (all_one rfl) ?_; intro w9 Z9 gr9 sz9)
  have HP := hide (show RecPost R w (.returned (.agg #[.int .i64 3, .int .i64 0, .int .i64 0, .int .i64 0, .int .i64 0, .int .i64 0, .bool false, .int .i64 0, .int .i64 0, .int .i64 0, .string { data := #[] }, .string { data := #[] }, .string { data := #[] }, .int .i64 0, .int .i64 (1 + pi), .int .i64 (1 + pt), .int .i64 m.now, .slice A1 n1 c1, .int .i64 m.next, .slice B1 k1 d1])) _ from ⟨_, rfl, by rw [HR.out]; exact ⟨A1, n1, c1, B1, k1, d1, rfl, S1.grown R0 gr9, C1.grown R0 gr9⟩, below_grow q1 gr9 q1.size (by omega)⟩)
  clear gr9 sz9 R0
  go_wp2_with fail
  have hlv : (loadVar 70 ⟨w.heap.size + 1, 0, none⟩).run Tryz.prog w9 = .ok (.agg #[.int .i64 3, .int .i64 0, .int .i64 0, .int .i64 0, .int .i64 0, .int .i64 0, .bool false, .int .i64 0, .int .i64 0, .int .i64 0, .string { data := #[] }, .string { data := #[] }, .string { data := #[] }, .int .i64 0, .int .i64 (1 + pi), .int .i64 (1 + pt), .int .i64 m.now, .slice A1 n1 c1, .int .i64 m.next, .slice B1 k1 d1]) w9 := run_loadVar_row w9 _ _ _ _ (0, 0) _ Z9 Tryz.underlying70 rfl rec_size
  refine bodyPost_ret (v := .agg #[.int .i64 3, .int .i64 0, .int .i64 0, .int .i64 0, .int .i64 0, .int .i64 0, .bool false, .int .i64 0, .int .i64 0, .int .i64 0, .string { data := #[] }, .string { data := #[] }, .string { data := #[] }, .int .i64 0, .int .i64 (1 + pi), .int .i64 (1 + pt), .int .i64 m.now, .slice A1 n1 c1, .int .i64 m.next, .slice B1 k1 d1]) ?_ rfl HP.out
  simp only [results, Tryz.results54]
  simp [asAddr, Act.put, hlv]
end Go.Proofs.YtgpkgegpcgiokaaGreatDoor

namespace Go.Proofs.YtgpkgegpcgiokaaGreatDoor
set_option linter.all false
open Go.RowKit
section
variable {W0 w w' w1 w2 : World} {g bl base n c size : Nat} {st : RS} {A : Option Addr} {v v' : Value} {rows : List (List Value)}
theorem Rd.dr (h : Rd W0 w g st) : Rd W0 w.drew g st := h.below (Below.refl _ w).drew
theorem own_grew {e t' : TypeId} {b : Nat} {cs : Array Value} (h : Own w base e size v rows) (R : Blk w b t' cs) (hg : w.grownBy w' (some b)) (hne : t' ≠ e := by decide) : Own w' base e size v rows := by
 refine ⟨⟨h.1.1, ?_⟩, h.2⟩
 rcases h.1.2 with e1 | ⟨k, cap, cur, e1, e2, e3, e4⟩
 ·exact .inl e1
 ·exact .inr ⟨k, cap, cur, e1, e2, grown_blk (t := e) e3 hg (blk_ne (t := e) e3 R (Ne.symm hne)), e4⟩
/-- All that was there stays, but for two blocks. -/
structure Keep2 (w w' : World) (g bl : Nat) : Prop where
 os : w'.os = w.os
 tape : w'.tape = w.tape
 output : w'.output = w.output
 size : w.heap.size ≤ w'.heap.size
 block : ∀ b, b < w.heap.size → b ≠ g → b ≠ bl → w'.heap[b]? = w.heap[b]?
theorem Keep2.refl (w : World) (g bl : Nat) : Keep2 w w g bl := ⟨rfl, rfl, rfl, Nat.le_refl _, fun _ _ _ _ => rfl⟩
theorem Keep2.below (h : Keep2 w w1 g bl) (hb : Below w1.heap.size w1 w2) : Keep2 w w2 g bl :=
 ⟨hb.os.trans h.os, hb.tape.trans h.tape, hb.output.trans h.output, Nat.le_trans h.size hb.size, fun b hl h1 h2 => (hb.block b (Nat.lt_of_lt_of_le hl h.size)).trans (h.block b hl h1 h2)⟩
theorem Keep2.blk (h : Keep2 w w' g bl) {b : Nat} {t : TypeId} {cs : Array Value} (B : Blk w b t cs) (h1 : b ≠ g) (h2 : b ≠ bl) : Blk w' b t cs := (h.block b B.lt h1 h2).trans B
theorem Keep2.fr {t : TypeId} {cs : Array Value} (h : Keep2 w w' g bl) (R : Rd W0 w g st) (B : Blk w bl t cs) (h1 : t ≠ 187 := by decide) (h2 : t ≠ 9 := by decide) (h3 : t ≠ 190 := by decide) : Fr w w' := by
 obtain ⟨⟨A, n, c, hB, _⟩, _, _, _⟩ := R
 exact ⟨h.size, fun k cs hb => h.blk hb (blk_ne hb hB (by decide)) (blk_ne hb B (Ne.symm h1)), fun k cs hb => h.blk hb (blk_ne hb hB (by decide)) (blk_ne hb B (Ne.symm h2)), fun k cs hb => h.blk hb (blk_ne hb hB (by decide)) (blk_ne hb B (Ne.symm h3))⟩
end
structure PaSl (w : World) (Y : Option Addr) (m d : Nat) (l : List Pr) : Prop where
 sl : Sl w 2 Y m d (pairRows l)
 tp : Tp w Y 187
theorem PaSl.fr {w w' : World} {Y : Option Addr} {m d : Nat} {l : List Pr} (h : PaSl w Y m d l) (f : Fr w w') : PaSl w' Y m d l :=
 ⟨h.sl.kept f.size fun a ha _ => by obtain ⟨cs, hc⟩ := h.tp a ha; exact (f.p _ _ hc).trans hc.symm, fun a ha => by obtain ⟨cs, hc⟩ := h.tp a ha; exact ⟨cs, f.p _ _ hc⟩⟩
end Go.Proofs.YtgpkgegpcgiokaaGreatDoor

namespace Go.Proofs.YtgpkgegpcgiokaaGreatDoor
set_option linter.all false
open Go.RowKit
theorem Clone_u8 (A : Option Addr) (n c : Nat) (rows : List (List Value)) (w : World) (h : Sl w 1 A n c rows) (h1 : ∀ r ∈ rows, ∀ u ∈ r, u.oneCell' = true) (hb : n * 1 ≤ 140737488355328) :
  Calls Tryz.prog 86 #[.slice A n c] w fun e w' => ∃ v, e = .returned v ∧ Own w' w.heap.size 5 1 v rows ∧ Below w.heap.size w w' := by
 have hS := h
 obtain ⟨hl, hnc, hcm, hn0, hs, hr⟩ := h
 have hq := fun w => Lib.run_eql_slice_nil (P := Tryz.prog) w 82 5 A n c 0 0 Tryz.underlying82
 cases A with
 | none =>
  obtain rfl := hn0 rfl
  obtain rfl : n = 0 := by omega
  obtain rfl := List.eq_nil_of_length_eq_zero hl
  go_enter Tryz.func86, Tryz.ntmps86
  go_wp2_with fail
  go_ret
  exact ⟨_, rfl, Own.nil, below_by⟩
 | some a =>
  by_cases hn : n = 0
  ·subst hn
   obtain rfl := List.eq_nil_of_length_eq_zero hl
   go_enter Tryz.func86, Tryz.ntmps86
   go_wp2_with fail
   go_ret
   exact ⟨_, rfl, Own.empty _ _ _ (Nat.le_refl _), below_by⟩
  ·go_enter Tryz.func86, Tryz.ntmps86
   go_wp2_with (at_builtin; refine wpList_grow rfl _ _ _ rfl Tryz.underlying82 u8_info rfl (by decide) (rows := []) rfl rfl (by simp) Seg.nil (by simp) rfl hl hr (hs.alloc _) h1 (by omega) (by omega) (by rw [Nat.zero_add]; omega) (by omega) ?_; intro v' w1 hown hb1)
   go_ret
   exact ⟨_, rfl, by simpa using hown.mono (by simp), bstep below_by hb1⟩
section
variable {W0 w w' w1 : World} {g base n c : Nat} {st : RS} {A : Option Addr}
theorem ClOwn.far {w w' : World} {b B n c : Nat} {A : Option Addr} {l : List Cl} (h : ClOwn w B A n c l) (hg : w.grownBy w' (some b)) (f : Fr w w') (hne : ∀ k, (Value.slice A n c).ownBlock = some k → k ≠ b) : ClOwn w' B A n c l := by
 obtain ⟨rows, k1, k2⟩ := h
 refine ⟨rows, ⟨⟨k1.1.1, ?_⟩, k1.2⟩, k2.fr f⟩
 rcases k1.1.2 with e1 | ⟨k, cap, cur, e1, e2, e3, e4⟩
 ·exact .inl e1
 ·refine .inr ⟨k, cap, cur, e1, e2, ?_, e4⟩
  exact grown_blk (t := 54) e3 hg (hne k (by rw [e1]; rfl))
theorem ClOwn.lt {w : World} {B n c : Nat} {A : Option Addr} {l : List Cl} (h : ClOwn w B A n c l) : ∀ k, (Value.slice A n c).ownBlock = some k → k < w.heap.size := by
 obtain ⟨rows, k1, k2⟩ := h
 intro k hk
 rcases k1.1.2 with ⟨e1, _⟩ | ⟨k', cap, cur, e1, e2, e3, e4⟩
 ·rw [e1] at hk; cases hk
 ·rw [e1] at hk
  simp only [Value.ownBlock, Option.some.injEq] at hk
  subst hk
  exact Blk.lt (t := 54) e3
theorem Keep2.sto {bm : Nat} {cs : Array Value} {l : List En} (h : Keep2 w w' g bm) (R : Rd W0 w g st) (B : Blk w bm 32 cs) (S : St w A n c l) : St w' A n c l := by
 have f := h.fr R B
 have hB : ∃ cs, Blk w g 162 cs := by obtain ⟨⟨A, n, c, hB, _⟩, _⟩ := R; exact ⟨_, hB⟩
 obtain ⟨cg, hB⟩ := hB
 obtain ⟨⟨rows, k1, k2⟩, T⟩ := S
 have key : ∀ k cs', Blk w k 144 cs' → Blk w' k 144 cs' := fun k cs' hb => h.blk hb (blk_ne hb hB (by decide)) (blk_ne hb B (by decide))
 exact ⟨⟨rows, k1.kept h.size fun a ha _ => (by obtain ⟨cs', hc⟩ := T a ha; exact (key _ _ hc).trans hc.symm), k2.fr f⟩, fun a ha => by obtain ⟨cs', hc⟩ := T a ha; exact ⟨cs', key _ _ hc⟩⟩
end
theorem bytes_one_ {l : List Value} (h : U8s l) : ∀ r ∈ byteRows l, ∀ u ∈ r, u.oneCell' = true := by
 intro r hr u hu
 obtain ⟨v, hv, rfl⟩ := List.mem_map.1 hr
 rw [List.mem_singleton] at hu
 subst hu
 obtain ⟨n, rfl, _⟩ := h _ hv
 rfl
end Go.Proofs.YtgpkgegpcgiokaaGreatDoor

namespace Go.Proofs.YtgpkgegpcgiokaaGreatDoor
set_option linter.all false
open Go.RowKit
/-- A whole value is loaded out of a block of its type. -/
theorem wpList_load_blk {P : Program} {ops : Array Oper} {rest : List Oper} {op : Oper} {a : Act} {w : World} {Q : Exit → Act → World → Prop} (hgd : op.guard = none) (ty : TypeId) (x : Operand) (ho : op.op = .load ty x)
  {b : Nat} {cs : Array Value} (hx : a.eval x = .pointer (some ⟨b, 0, none⟩)) (hB : Blk w b ty cs) {d : TypeDesc} (hu : P.underlying ty = some d) (hd : (match d with | .struct _ | .array _ _ => true | _ => false) = true) (hi : (P.info? ty).map (·.size) = some cs.size)
  (h : wpList P ops Q rest (a.put op.dst (.agg cs)) w) : wpList P ops Q (op :: rest) a w := by
 have hrun := run_loadVar_row (P := P) w b ty ty cs (0, 0) d hB hu hd hi
 refine wpList_plain hgd fun _ hK => ?_
 unfold Oper.wp execOp
 simp only [ho, hx, Instr.loadAt, Instr.sureAddr, Sem.run_bind, Sem.run_pure, Result.andThen_ok, hrun]
 exact hK _ _ h
theorem Check_rec {r : RK} (hr : r.Ok) {row : List Value} (w : World) (h : RecAt w r row) : Calls Tryz.prog 37 #[.agg row.toArray] w fun e w' => e = .returned (.int .i64 0) ∧ Below w.heap.size w w' := by
 cases r with
 | mark t f => rw [show row = markCells t f from h]; exact CheckMark_ok t f hr.1 hr.2.1 hr.2.2 w
 | line i x => rw [show row = lineCells i x from h]; exact CheckLine_ok i x hr.1 hr.2 w
 | load i t m =>
  obtain ⟨A, n, c, B, k, d, rfl, hE, hC⟩ := h
  have hok := hr.2.2
  have h0 : csM i t m = 0 := by unfold csM; rw [hr.1, hr.2.1, if_pos (by rfl), ok_mach hok]
  rw [← h0]
  exact CheckLoad_any i t m A B n c k d w hE.sl hC.sl (by have := hE.sl.len; have := hok.sto.few; omega) (by have := hC.sl.len; have := hok.few; omega) (fun x hx => by obtain ⟨a, b, d⟩ := hok.sto.small x hx; exact ⟨by omega, by omega, by omega⟩) (fun x hx => by have := rep_to (hok.cli x hx).rep; exact ⟨by have := this.text; omega, by have := this.few; omega⟩)
theorem tape_size : (Tryz.prog.info? 92).map (·.size) = some 2 := by kernel_rfl
set_option maxHeartbeats 8000000 in
set_option maxRecDepth 100000 in
theorem topen_any (l : List Value) (hu : U8s l) (A : Option Addr) (n c : Nat) (s : Int) (w : World) (hS : Sl w 1 A n c (byteRows l)) (h0 : 0 ≤ s) (h1 : s ≤ l.length) (h2 : l.length ≤ 400000) :
  Calls Tryz.prog 97 #[.agg #[.slice A n c, .int .i64 s]] w fun e w' => ∃ Y m d, e = .returned (.tuple #[.agg #[.slice Y m d, .int .i64 s], .bool true]) ∧ Own w' w.heap.size 5 1 (.slice Y m d) (byteRows l) ∧ Below w.heap.size w w' := by
 have hm : l.length = n := by rw [← hS.len, byteRows_length]
 have HCL := hide (fun w' (h : Below w.heap.size w w') => Clone_u8 A n c (byteRows l) w' (hS.below h) (bytes_one_ hu) (by omega))
 have c1 : ¬ (s < 0) := by omega
 have c2 : ¬ ((n : Int) < s) := by omega
 have c3 : ¬ ((400000 : Int) < (n : Int)) := by omega
 clear hu hS
 have T0 := (Blk.new w 92 #[.slice A n c, .int .i64 s]).alloc (.cells #[.slice none 0 0, .int .i64 0] 92)
 have R0 : Blk ((w.alloc (.cells #[.slice A n c, .int .i64 s] 92)).alloc (.cells #[.slice none 0 0, .int .i64 0] 92)) (w.heap.size + 1) 92 #[.slice none 0 0, .int .i64 0] := Blk.new' _ _ _ (by simp)
 have q0 : Below w.heap.size w ((w.alloc (.cells #[.slice A n c, .int .i64 s] 92)).alloc (.cells #[.slice none 0 0, .int .i64 0] 92)) := below_by
 go_enter Tryz.func97, Tryz.ntmps97
 (try clear cT0 fT0); have cT0 := T0.cell; have fT0 := T0.frozen
 go_wp2_with fail
 obtain ⟨w0, hw0⟩ : ∃ w0, w0 = (w.alloc (.cells #[.slice A n c, .int .i64 s] 92)).alloc (.cells #[.slice none 0 0, .int .i64 0] 92) := ⟨_, rfl⟩
 rw [← hw0] at T0 R0 q0 ⊢
 clear hw0 cT0 fT0
 refine wp_region_x (l := []) (S := fun w' => w'.cell? ⟨w.heap.size, 0, none⟩ = some (.slice A n c) ∧ w'.cell? ⟨w.heap.size, 1, none⟩ = some (.int .i64 s)) (by kernel_rfl) ⟨T0.drew.cell 0, T0.drew.cell 1⟩ (fun hS => ?_)
 replace T0 := T0.drew; replace R0 := R0.drew; replace q0 := q0.drew
 obtain ⟨wd, hwd⟩ : ∃ wd, wd = w0.drew := ⟨_, rfl⟩
 rw [← hwd] at hS T0 R0 q0 ⊢
 clear hwd
 refine wpAnyX_tk (i := 0) (v := ?xv0) rfl (Or.inl ⟨by rfl, ?xh0⟩) ?xr0; (case xh0 => (intro w hSw; (try dsimp only at hSw); go_simp; (try with_reducible rfl))); (try simp only [Act.put, List.setIfInBounds_toArray, List.set_cons_zero, List.set_cons_succ, List.getElem_toArray, List.getElem_cons_zero, List.getElem_cons_succ])
 refine wpAnyX_tk (i := 1) (v := ?xv1) rfl (Or.inl ⟨by rfl, ?xh1⟩) ?xr1; (case xh1 => (intro w hSw; (try dsimp only at hSw); go_simp; (try with_reducible rfl))); (try simp only [Act.put, List.setIfInBounds_toArray, List.set_cons_zero, List.set_cons_succ, List.getElem_toArray, List.getElem_cons_zero, List.getElem_cons_succ])
 refine wpAnyX_tk (i := 3) (v := ?xv3) rfl (Or.inl ⟨by rfl, ?xh3⟩) ?xr3; (case xh3 => (intro w hSw; (try dsimp only at hSw); go_simp; (try with_reducible rfl))); (try simp only [Act.put, List.setIfInBounds_toArray, List.set_cons_zero, List.set_cons_succ, List.getElem_toArray, List.getElem_cons_zero, List.getElem_cons_succ])
 refine wpAnyX_tk (i := 4) (v := ?xv4) rfl (Or.inl ⟨by rfl, ?xh4⟩) ?xr4; (case xh4 => (intro w hSw; (try dsimp only at hSw); go_simp; (try with_reducible rfl))); (try simp only [Act.put, List.setIfInBounds_toArray, List.set_cons_zero, List.set_cons_succ, List.getElem_toArray, List.getElem_cons_zero, List.getElem_cons_succ])
 refine wpAnyX_one (i := 2) (by kernel_rfl) rfl (by rfl) (fun K hK => ?_); (try simp only [List.getElem_toArray, List.getElem_cons_zero, List.getElem_cons_succ])
 go_wp2_with fail
 refine (HCL.out _ q0).mono ?_
 rintro e w1 ⟨v, rfl, o1, b1⟩
 obtain ⟨Y, m, d, rfl⟩ := own_slice o1
 go_wp2_with fail
 replace T0 := T0.below' b1; replace R0 := R0.below' b1
 have q1 := bstep q0 b1
 refine hK.out _ _ (Or.inr ⟨T0.cell 0, T0.cell 1⟩) (fun hS => ?_)
 replace hS := hS.resolve_left (by decide)
 clear hK K
 refine wpAnyX_tk (i := 5) (v := ?xv5) rfl (Or.inl ⟨by rfl, ?xh5⟩) ?xr5; (case xh5 => (intro w hSw; (try dsimp only at hSw); go_simp; (try with_reducible rfl))); (try simp only [Act.put, List.setIfInBounds_toArray, List.set_cons_zero, List.set_cons_succ, List.getElem_toArray, List.getElem_cons_zero, List.getElem_cons_succ])
 refine wpAnyX_one (i := 6) (by kernel_rfl) rfl (by rfl) (fun K hK => ?_); (try simp only [List.getElem_toArray, List.getElem_cons_zero, List.getElem_cons_succ])
 refine wpList_store_blk rfl 92 _ _ rfl (cells := #[.slice Y m d, .int .i64 s]) rfl rfl R0 rfl tape_size (all_one rfl) ?_
 intro w9 Z9 gr9 sz9
 have T9 := grown_blk T0 gr9 (by omega)
 have o9 := (own_grew o1 R0 gr9).mono (q0.size)
 have q9 := below_grow q1 gr9 q1.size (by omega)
 refine hK.out _ _ (Or.inr ⟨T9.cell 0, T9.cell 1⟩) (fun hS => ?_)
 replace hS := hS.resolve_left (by decide)
 clear hK K
 refine wpAnyX_one (i := 7) (by kernel_rfl) rfl (by rfl) (fun K hK => ?_); (try simp only [List.getElem_toArray, List.getElem_cons_zero, List.getElem_cons_succ])
 go_wp2_with fail
 refine hK.out _ _ (Or.inr ⟨T9.cell 0, T9.cell 1⟩) (fun _ => ?_)
 clear hK K
 refine wpAnyX_done (by kernel_rfl) ?_ _
 clear gr9 sz9 R0 T0 o1 b1 q0 q1 hS T9
 (try clear cZ9 fZ9); have cZ9 := Z9.cell; have fZ9 := Z9.frozen
 go_wp2_with fail
 refine bodyPost_ret (v := .tuple #[.agg #[.slice Y m d, .int .i64 s], .bool true]) ?_ rfl ⟨Y, m, d, rfl, o9, q9⟩
 simp [results, Tryz.results97, go_sem, *]
theorem disk_size : (Tryz.prog.info? 103).map (·.size) = some 11 := by kernel_rfl
set_option maxHeartbeats 8000000 in
set_option maxRecDepth 100000 in
theorem TapeNew_any (w : World) : Calls Tryz.prog 99 #[] w fun e w' => e = .returned (.agg #[.int .i64 0, .int .i64 (-1), .int .i64 0, .int .i64 0, .int .i64 0, .slice none 0 0, .int .i64 1, .slice none 0 0, .int .i64 0, .int .i64 0, .slice none 0 0]) ∧ Below w.heap.size w w' := by
 have R0 := Blk.new w 103 #[.int .i64 0, .int .i64 0, .int .i64 0, .int .i64 0, .int .i64 0, .slice none 0 0, .int .i64 0, .slice none 0 0, .int .i64 0, .int .i64 0, .slice none 0 0]
 have q0 : Below w.heap.size w (w.alloc (.cells #[.int .i64 0, .int .i64 0, .int .i64 0, .int .i64 0, .int .i64 0, .slice none 0 0, .int .i64 0, .slice none 0 0, .int .i64 0, .int .i64 0, .slice none 0 0] 103)) := below_by
 go_enter Tryz.func99, Tryz.ntmps99
 go_wp2_with fail
 refine (New_any _).mono ?_
 rintro e w1 ⟨rfl, b1⟩
 replace R0 := R0.below' b1
 have q1 := bstep q0 b1
 go_wp2_with (refine wpList_store_blk rfl 103 _ _ rfl (cells := #[.int .i64 0, .int .i64 (-1), .int .i64 0, .int .i64 0, .int .i64 0, .slice none 0 0, .int .i64 1, .slice none 0 0, .int .i64 0, .int .i64 0, .slice none 0 0]) rfl rfl R0 rfl disk_size (all_one rfl) ?_; intro w9 Z9 gr9 sz9)
 have q9 := below_grow q1 gr9 q1.size (Nat.le_refl _)
 clear gr9 sz9 R0
 go_wp2_with fail
 have hlv : (loadVar 103 ⟨w.heap.size, 0, none⟩).run Tryz.prog w9 = .ok (.agg #[.int .i64 0, .int .i64 (-1), .int .i64 0, .int .i64 0, .int .i64 0, .slice none 0 0, .int .i64 1, .slice none 0 0, .int .i64 0, .int .i64 0, .slice none 0 0]) w9 := run_loadVar_row w9 _ _ _ _ (0, 0) _ Z9 Tryz.underlying103 rfl disk_size
 refine bodyPost_ret (v := .agg #[.int .i64 0, .int .i64 (-1), .int .i64 0, .int .i64 0, .int .i64 0, .slice none 0 0, .int .i64 1, .slice none 0 0, .int .i64 0, .int .i64 0, .slice none 0 0]) ?_ rfl ⟨rfl, q9⟩
 simp only [results, Tryz.results99]
 simp [asAddr, Act.put, hlv]
set_option maxHeartbeats 8000000 in
set_option maxRecDepth 100000 in
/-- A record that is refused is not appended. -/
theorem Append_ref (c0 c1 c2 c3 c4 c5 c6 c7 c8 c9 c10 c11 c12 c13 c14 c15 c16 c17 c18 c19 : Value) (k : Int) (hk : k ≠ 0) (hC : ∀ w, Calls Tryz.prog 37 #[.agg #[c0, c1, c2, c3, c4, c5, c6, c7, c8, c9, c10, c11, c12, c13, c14, c15, c16, c17, c18, c19]] w fun e w' => e = .returned (.int .i64 k) ∧ Below w.heap.size w w') (w : World) :
  Calls Tryz.prog 55 #[.agg #[.slice none 0 0, .int .i64 0], .agg #[c0, c1, c2, c3, c4, c5, c6, c7, c8, c9, c10, c11, c12, c13, c14, c15, c16, c17, c18, c19]] w fun e w' => e = .returned (.tuple #[.agg #[.slice none 0 0, .int .i64 0], .int .i64 k]) ∧ Below w.heap.size w w' := by
 have HC := hide hC
 clear hC
 have hkb : (k == 0) = false := by simpa using hk
 have T0 := ((Blk.new w 92 #[.slice none 0 0, .int .i64 0]).alloc (.cells #[c0, c1, c2, c3, c4, c5, c6, c7, c8, c9, c10, c11, c12, c13, c14, c15, c16, c17, c18, c19] 70)).alloc (.cells #[.slice none 0 0, .int .i64 0] 92)
 have R0 : Blk (((w.alloc (.cells #[.slice none 0 0, .int .i64 0] 92)).alloc (.cells #[c0, c1, c2, c3, c4, c5, c6, c7, c8, c9, c10, c11, c12, c13, c14, c15, c16, c17, c18, c19] 70)).alloc (.cells #[.slice none 0 0, .int .i64 0] 92)) (w.heap.size + 1) 70 #[c0, c1, c2, c3, c4, c5, c6, c7, c8, c9, c10, c11, c12, c13, c14, c15, c16, c17, c18, c19] := (Blk.new' _ _ _ (by simp)).alloc _
 have Z0 : Blk (((w.alloc (.cells #[.slice none 0 0, .int .i64 0] 92)).alloc (.cells #[c0, c1, c2, c3, c4, c5, c6, c7, c8, c9, c10, c11, c12, c13, c14, c15, c16, c17, c18, c19] 70)).alloc (.cells #[.slice none 0 0, .int .i64 0] 92)) (w.heap.size + 1 + 1) 92 #[.slice none 0 0, .int .i64 0] := Blk.new' _ _ _ (by simp)
 have q0 : Below w.heap.size w (((w.alloc (.cells #[.slice none 0 0, .int .i64 0] 92)).alloc (.cells #[c0, c1, c2, c3, c4, c5, c6, c7, c8, c9, c10, c11, c12, c13, c14, c15, c16, c17, c18, c19] 70)).alloc (.cells #[.slice none 0 0, .int .i64 0] 92)) := below_by
 go_enter Tryz.func55, Tryz.ntmps55
 (try clear cT0 fT0); have cT0 := T0.cell; have fT0 := T0.frozen
 go_wp2_with fail
 refine (topen_any [] (fun u hu => by cases hu) none 0 0 0 _ (Sl.nil_ _ _) (by omega) (by simp) (by simp)).mono ?_
 rintro e w1 ⟨Y, m, d, rfl, o1, b1⟩
 clear cT0 fT0 T0
 replace R0 := R0.below' b1
 replace Z0 := Z0.below' b1
 have q1 := bstep q0 b1
 clear o1 b1 q0
 replace R0 := R0.alloc (.cells #[.slice Y m d, .int .i64 0] 92)
 replace Z0 := Z0.alloc (.cells #[.slice Y m d, .int .i64 0] 92)
 have q2 : Below w.heap.size w (w1.alloc (.cells #[.slice Y m d, .int .i64 0] 92)) := below_by
 go_wp2_with (refine wpList_load_blk rfl 70 _ rfl rfl R0 Tryz.underlying70 rfl rec_size ?_)
 refine (HC.out _).mono ?_
 rintro e w3 ⟨rfl, b3⟩
 replace Z0 := Z0.below' b3
 have q3 := bstep q2 b3
 clear b3 q2 R0 HC
 have hzl := Z0.lt
 (try clear cZ0 fZ0); have cZ0 := Z0.cell; have fZ0 := Z0.frozen
 go_wp2_with fail
 refine bodyPost_ret (v := .tuple #[.agg #[.slice none 0 0, .int .i64 0], .int .i64 k]) ?_ rfl ⟨rfl, ?_⟩
 ·simp [results, Tryz.results55, go_sem, *]
 ·first | exact q3 | exact below_grow (below_grow q3 (grown_setRow_cell _ _ 0 _) q3.size (by omega)) (grown_setRow_cell _ _ 1 _) (by simpa using q3.size) (by omega)
set_option maxHeartbeats 8000000 in
set_option maxRecDepth 100000 in
/-- A record that is refused is not folded. -/
theorem Fold_ref (c0 c1 c2 c3 c4 c5 c6 c7 c8 c9 c10 c11 c12 c13 c14 c15 c16 c17 c18 c19 : Value) (k : Int) (hk : k ≠ 0) (h1 : ∀ u ∈ [c0, c1, c2, c3, c4, c5, c6, c7, c8, c9, c10, c11, c12, c13, c14, c15, c16, c17, c18, c19], u.oneCell' = true) (hC : ∀ w, Calls Tryz.prog 37 #[.agg #[c0, c1, c2, c3, c4, c5, c6, c7, c8, c9, c10, c11, c12, c13, c14, c15, c16, c17, c18, c19]] w fun e w' => e = .returned (.int .i64 k) ∧ Below w.heap.size w w') (g : Nat) (w : World) (hB : Blk w g 70 #[c0, c1, c2, c3, c4, c5, c6, c7, c8, c9, c10, c11, c12, c13, c14, c15, c16, c17, c18, c19]) :
  Calls Tryz.prog 51 #[.slice (some ⟨g, 0, none⟩) 1 1] w fun e w' => e = .returned (.tuple #[.agg #[.int .i64 0, .int .i64 0, .int .i64 0, .int .i64 0, .int .i64 0, .slice none 0 0, .int .i64 0, .slice none 0 0, .int .i64 0, .int .i64 0, .slice none 0 0], .int .i64 k]) ∧ Below w.heap.size w w' := by
 have HC := hide hC
 have H1 := hide h1
 clear hC h1
 have hkb : (k == 0) = false := by simpa using hk
 have Z0 := Blk.new w 103 #[.int .i64 0, .int .i64 0, .int .i64 0, .int .i64 0, .int .i64 0, .slice none 0 0, .int .i64 0, .slice none 0 0, .int .i64 0, .int .i64 0, .slice none 0 0]
 have q0 : Below w.heap.size w (w.alloc (.cells #[.int .i64 0, .int .i64 0, .int .i64 0, .int .i64 0, .int .i64 0, .slice none 0 0, .int .i64 0, .slice none 0 0, .int .i64 0, .int .i64 0, .slice none 0 0] 103)) := below_by
 go_enter Tryz.func51, Tryz.ntmps51
 go_wp2_with fail
 refine (TapeNew_any _).mono ?_
 rintro e w1 ⟨rfl, b1⟩
 have q1 := bstep q0 b1
 replace Z0 := Z0.below' b1
 have B0 := hB.below' q1
 clear b1 q0 hB
 replace Z0 := Z0.alloc (.cells #[.int .i64 0, .int .i64 (-1), .int .i64 0, .int .i64 0, .int .i64 0, .slice none 0 0, .int .i64 1, .slice none 0 0, .int .i64 0, .int .i64 0, .slice none 0 0] 103)
 replace B0 := B0.alloc (.cells #[.int .i64 0, .int .i64 (-1), .int .i64 0, .int .i64 0, .int .i64 0, .slice none 0 0, .int .i64 1, .slice none 0 0, .int .i64 0, .int .i64 0, .slice none 0 0] 103)
 have q2 : Below w.heap.size w (w1.alloc (.cells #[.int .i64 0, .int .i64 (-1), .int .i64 0, .int .i64 0, .int .i64 0, .slice none 0 0, .int .i64 1, .slice none 0 0, .int .i64 0, .int .i64 0, .slice none 0 0] 103)) := below_by
 go_wp2_with fail
 obtain ⟨w2, hw2⟩ : ∃ w2, w2 = w1.alloc (.cells #[.int .i64 0, .int .i64 (-1), .int .i64 0, .int .i64 0, .int .i64 0, .slice none 0 0, .int .i64 1, .slice none 0 0, .int .i64 0, .int .i64 0, .slice none 0 0] 103) := ⟨_, rfl⟩
 rw [← hw2] at Z0 B0 q2 ⊢
 clear hw2 q1
 have hw20 : w.heap.size ≤ w2.heap.size := q2.size
 have q3 : Below w.heap.size w (w2.alloc (.cells #[.int .i64 0, .int .i64 0, .int .i64 0, .int .i64 0, .int .i64 0, .int .i64 0, .bool false, .int .i64 0, .int .i64 0, .int .i64 0, .string { data := #[] }, .string { data := #[] }, .string { data := #[] }, .int .i64 0, .int .i64 0, .int .i64 0, .int .i64 0, .slice none 0 0, .int .i64 0, .slice none 0 0] 70)) := below_by
 have Z3 := Z0.alloc (.cells #[.int .i64 0, .int .i64 0, .int .i64 0, .int .i64 0, .int .i64 0, .int .i64 0, .bool false, .int .i64 0, .int .i64 0, .int .i64 0, .string { data := #[] }, .string { data := #[] }, .string { data := #[] }, .int .i64 0, .int .i64 0, .int .i64 0, .int .i64 0, .slice none 0 0, .int .i64 0, .slice none 0 0] 70)
 have hzl := Z0.lt
 refine wp_loop_rounds 1 ?_
 rw [rounds_succ]
 go_wp2_with (first | (refine wpList_load_blk rfl 70 _ rfl rfl B0 Tryz.underlying70 rfl rec_size ?_) | (refine wpList_store_blk rfl 70 _ _ rfl (cells := #[c0, c1, c2, c3, c4, c5, c6, c7, c8, c9, c10, c11, c12, c13, c14, c15, c16, c17, c18, c19]) rfl rfl (Blk.new w2 _ _) rfl rec_size H1.out ?_; intro w4 Z4 gr4 sz4) | (refine wpList_load_blk rfl 70 _ rfl rfl Z4 Tryz.underlying70 rfl rec_size ?_))
 refine (HC.out _).mono ?_
 rintro e w5 ⟨rfl, b5⟩
 have Z5 := (grown_blk Z3 gr4 (by omega)).below' b5
 have q5 := bstep (below_grow q3 gr4 q3.size hw20) b5
 clear HC H1 gr4 sz4 b5 B0 Z0 Z3 Z4 q2 q3
 (try clear cZ5 fZ5); have cZ5 := Z5.cell; have fZ5 := Z5.frozen
 have hz5 := Z5.lt
 go_wp2_with (refine wpList_store_blk rfl 103 _ _ rfl (cells := #[.int .i64 0, .int .i64 0, .int .i64 0, .int .i64 0, .int .i64 0, .slice none 0 0, .int .i64 0, .slice none 0 0, .int .i64 0, .int .i64 0, .slice none 0 0]) rfl rfl Z5 rfl disk_size (all_one rfl) ?_; intro w6 Z6 gr6 sz6)
 have q6 := below_grow q5 gr6 q5.size (Nat.le_refl _)
 clear gr6 sz6 Z5 cZ5 fZ5 q5
 go_wp2_with fail
 have hlv : (loadVar 103 ⟨w.heap.size, 0, none⟩).run Tryz.prog w6 = .ok (.agg #[.int .i64 0, .int .i64 0, .int .i64 0, .int .i64 0, .int .i64 0, .slice none 0 0, .int .i64 0, .slice none 0 0, .int .i64 0, .int .i64 0, .slice none 0 0]) w6 := run_loadVar_row w6 _ _ _ _ (0, 0) _ Z6 Tryz.underlying103 rfl disk_size
 refine bodyPost_ret (v := .tuple #[.agg #[.int .i64 0, .int .i64 0, .int .i64 0, .int .i64 0, .int .i64 0, .slice none 0 0, .int .i64 0, .slice none 0 0, .int .i64 0, .int .i64 0, .slice none 0 0], .int .i64 k]) ?_ rfl ⟨rfl, q6⟩
 simp only [results, Tryz.results51]
 simp [asAddr, Act.put, hlv]
end Go.Proofs.YtgpkgegpcgiokaaGreatDoor

