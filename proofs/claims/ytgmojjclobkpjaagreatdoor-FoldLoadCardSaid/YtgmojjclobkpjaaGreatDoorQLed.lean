import Derived.Test.YtgmojjclobkpjaaGreatDoorQCall
import Derived.Test.YtgmojjclobkpjaaGreatDoorQOwn
import Derived.Deep.QuietTactic
import Derived.BigQuiet
namespace Go.Proofs.YtgmojjclobkpjaaGreatDoor
set_option linter.all false
set_option maxHeartbeats 32000000
open Go.RowKit
theorem item_info:(Tryz.prog.info? 35).map (fun i=>(i.zero,i.size,i.bytes))=some (some (.agg #[.int .i64 0,.int .i64 0,.bool false,.int .i64 0,.int .i64 0,.int .i64 0,.string ByteArray.empty,.string ByteArray.empty,.string ByteArray.empty,.int .i64 0]),10,104):=by kernel_rfl
theorem Clone_item (A:Option Addr) (n c:Nat) (rows:List (List Value)) (w:World) (h:Sl w 10 A n c rows) (h1:∀ r∈rows,∀ u∈r,u.oneCell'=true) (hb:n*104≤140737488355328) :
  Calls Tryz.prog 46 #[.slice A n c] w fun e w'=>∃ v,e = .returned v∧Own w' w.heap.size 35 10 v rows∧Below w.heap.size w w':=by
 have hS:=h
 obtain ⟨hl,hnc,hcm,hn0,hs,hr⟩:=h
 have hq:=fun w=>Lib.run_eql_slice_nil (P:=Tryz.prog) w 57 35 A n c 0 0 Tryz.underlying57
 cases A with
 | none=>
  obtain rfl:=hn0 rfl
  obtain rfl:n=0:=by omega
  obtain rfl:=List.eq_nil_of_length_eq_zero hl
  go_enter Tryz.func46,Tryz.ntmps46
  go_wp2_with fail
  go_ret
  exact ⟨_,rfl,Own.nil,below_by⟩
 | some a=>
  by_cases hn:n=0
  ·subst hn
   obtain rfl:=List.eq_nil_of_length_eq_zero hl
   go_enter Tryz.func46,Tryz.ntmps46
   go_wp2_with fail
   go_ret
   exact ⟨_,rfl,Own.empty _ _ _ (Nat.le_refl _),below_by⟩
  ·go_enter Tryz.func46,Tryz.ntmps46
   go_wp2_with (at_builtin;refine wpList_grow rfl _ _ _ rfl Tryz.underlying57 item_info rfl (by decide) (rows:=[]) rfl rfl (by simp) Seg.nil (by simp) rfl hl hr (hs.alloc _) h1 (by omega) (by omega) (by rw [Nat.zero_add];omega) (by omega) ?_;intro v' w1 hown hb1)
   go_ret
   exact ⟨_,rfl,by simpa using hown.mono (by simp),bstep below_by hb1⟩
def Itm.zero (x:Itm):Bool:=x.client == 0 && zeroCall x.seq x.cmd.kind x.cmd.key x.cmd.field x.cmd.text x.cmd.n
def checkItem (x:Itm):Int:=
 if x.term<1∨1048576<x.term∨x.time<0∨1073741824<x.time then 2
 else if x.nop=true then (if x.zero=true then 0 else 8)
 else checkCall x.client x.seq x.cmd.kind x.cmd.key x.cmd.field x.cmd.text x.cmd.n
theorem CheckItem_any (x:Itm) (w:World) :
  Calls Tryz.prog 29 #[.agg #[.int .i64 x.term,.int .i64 x.time,.bool x.nop,.int .i64 x.client,.int .i64 x.seq,.int .i64 x.cmd.kind,.string x.cmd.key,.string x.cmd.field,.string x.cmd.text,.int .i64 x.cmd.n]] w
   fun e w'=>e = .returned (.int .i64 (checkItem x))∧Below w.heap.size w w':=by
 obtain ⟨term,time,nop,client,seq,⟨kind,key,field,text,n⟩⟩:=x
 cases nop
 all_goals
  go_enter Tryz.func29,Tryz.ntmps29
  go_wp2_with (go_at_call 58;refine (CheckCall_any _ _ _ _ _ _ _ _).mono ?_;rintro e w1 ⟨rfl,hb1⟩)
  all_goals go_ret
  all_goals refine ⟨ret_int ?_,below_by⟩
  all_goals (unfold checkItem Itm.zero zeroCall;simp_all <;> omega)
def itemAt (d:DeedD) (t m:Int):Itm:={ itemOf d 0 0 with term:=t,time:=m }
theorem zeroCmd_call:zeroCall 0 zeroCmd.kind zeroCmd.key zeroCmd.field zeroCmd.text zeroCmd.n=true:=by
 simp [zeroCall,zeroCmd,emp_list]
theorem check_itemAt (d:DeedD) (t m:Int) (h1:1≤t) (h2:t≤1048576) (h3:0≤m) (h4:m≤1073741824):checkItem (itemAt d t m)=0:=by
 have c1:=picked_lo d.client 50 (by omega)
 have c2:=picked_hi d.client 50 (by omega)
 have o1:=picked_lo d.off 100 (by omega)
 have o2:=picked_hi d.off 100 (by omega)
 unfold itemAt itemOf
 split
 ·unfold checkItem
  rw [if_neg (by simp;omega)]
  simp [Itm.zero,zeroCmd_call]
 ·split
  ·unfold checkItem
   rw [if_neg (by simp;omega)]
   simp [checkCall,zeroCmd_call]
  ·unfold checkItem
   rw [if_neg (by simp;omega)]
   simp only [Bool.false_eq_true,if_false]
   unfold checkCall
   rw [if_neg (by simp;omega),if_neg (by simp [numberOk];omega)]
   exact cmd_ok _ _ _ _ _
theorem checkItem_ok {x:Itm} (h:checkItem x=0):1≤x.term∧x.term≤1048576∧0≤x.time∧x.time≤1073741824:=by
 unfold checkItem at h
 split at h
 ·cases h
 ·omega
end Go.Proofs.YtgmojjclobkpjaaGreatDoor

