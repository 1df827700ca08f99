import Derived.Test.YtgdcofbnbiclmaaGreatDoorQBlkS
namespace Go.Proofs.YtgdcofbnbiclmaaGreatDoor
set_option linter.all false
set_option maxHeartbeats 32000000
open Go.RowKit
theorem run_index_one {P:Program} {T E:TypeId} {n:Nat} {d:TypeDesc} (ht:P.underlying T=some (.array n E)) (hE:P.underlying E=some d) (hd:(match d with | .struct _ | .array _ _=>true|_=>false)=false) (hs:(P.info? E).map (·.size)=some 1) (cs:Array Value) (k:Nat) (hk:k<n) (u:Value) (hu:cs[k]?=some u) (w:World) :
  (Instr.index T (.agg cs) (.int .i64 (k:Int))).run P w = .ok u w:=by
 obtain ⟨i,hi,h1⟩:=Option.map_eq_some_iff.1 hs
 have hkn:(0:Int)≤k∧(k:Int)<n:=by omega
 have hag:(isAgg E).run P w = .ok false w:=by
  unfold isAgg
  rw [Sem.run_bind,run_underlying hE w]
  cases d <;> simp_all
 have hsz:(sizeOf E).run P w = .ok 1 w:=by simp [sizeOf,typeInfo,hi,h1]
 unfold Instr.index
 simp [asIntOf,run_underlying ht,hkn.1,hkn.2,hsz,part,hag,hu]
 omega
theorem run_index_row {P:Program} {T E:TypeId} {n size:Nat} {d:TypeDesc} (ht:P.underlying T=some (.array n E)) (hE:P.underlying E=some d) (hd:(match d with | .struct _ | .array _ _=>true|_=>false)=true) (hs:(P.info? E).map (·.size)=some size) (cs:Array Value) (k:Nat) (hk:k<n) (w:World) :
  (Instr.index T (.agg cs) (.int .i64 (k:Int))).run P w = .ok (.agg (cs.extract (k*size) (k*size+size))) w:=by
 obtain ⟨i,hi,h1⟩:=Option.map_eq_some_iff.1 hs
 have hkn:(0:Int)≤k∧(k:Int)<n:=by omega
 have hag:(isAgg E).run P w = .ok true w:=by
  unfold isAgg
  rw [Sem.run_bind,run_underlying hE w]
  cases d <;> simp_all
 have hsz:(sizeOf E).run P w = .ok size w:=by simp [sizeOf,typeInfo,hi,h1]
 unfold Instr.index
 simp [asIntOf,run_underlying ht,hkn.1,hkn.2,hsz,part,hag]
 omega
theorem wpList_idx {P:Program} {ops:Array Oper} {rest:List Oper} {op:Oper} {a:Act} {w:World} {Q:Exit→Act→World→Prop} (hgd:op.guard=none) (T:TypeId) (x ix:Operand) (ho:op.op = .index T x ix)
  {u v r:Value} (hx:a.eval x=u) (hi:a.eval ix=v) (hr:(Instr.index T u v).run P w = .ok r w) (h:wpList P ops Q rest (a.put op.dst r) w):wpList P ops Q (op :: rest) a w:=by
 refine wpList_plain hgd fun _ hK=>?_
 unfold Oper.wp execOp
 simp only [ho,hx,hi,Sem.run_bind,hr,Result.andThen_ok]
 exact hK _ _ h
end Go.Proofs.YtgdcofbnbiclmaaGreatDoor

