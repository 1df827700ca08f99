import Derived.Test.YtgdcofbnbiclmaaGreatDoorQHeldX
import Derived.Laws.Tables
import Derived.Laws.Rows
namespace Go.Proofs.YtgdcofbnbiclmaaGreatDoor
set_option linter.all false
set_option maxHeartbeats 32000000
open Go.RowKit
theorem wpList_sto {P:Program} {ops:Array Oper} {rest:List Oper} {op:Oper} {a:Act} {w:World} {Q:Exit→Act→World→Prop} (hgd:op.guard=none) (ty:TypeId) (x y:Operand) (ho:op.op = .store ty x y)
  {b:Nat} {cs cells:Array Value} (hx:a.eval x = .pointer (some ⟨b,0,none⟩)) (hy:a.eval y = .agg cells) (hB:Blk w b ty cs) (hsz:cs.size=cells.size) (hi:(P.info? ty).map (·.size)=some cells.size) (h1:∀ u∈cells.toList,u.oneCell'=true)
  (h:∀ w',Blk w' b ty cells→w.grownBy w' (some b)→w'.heap.size=w.heap.size→wpList P ops Q rest (a.put op.dst undef) w'):wpList P ops Q (op :: rest) a w:=by
 have hrun:=run_storeVar_row (P:=P) w b ty ty cs cells hB hi hsz (Array.all_eq_true_iff_forall_mem.2 fun v hv=>h1 v (by simpa using hv))
 refine wpList_plain hgd fun _ hK=>?_
 unfold Oper.wp execOp
 simp only [ho,hx,hy,Instr.storeAt,Instr.sureAddr,Sem.run_bind,Sem.run_pure,Result.andThen_ok,hrun]
 refine hK _ _ (h _ ?_ (grown_setRow w b cells) ?_)
 ·exact setRow_heap w b cs cells ty (0,0) hB
 ·exact size_setRow w b cells
theorem wpList_lod {P:Program} {ops:Array Oper} {rest:List Oper} {op:Oper} {a:Act} {w:World} {Q:Exit→Act→World→Prop} (hgd:op.guard=none) (ty:TypeId) (x:Operand) (ho:op.op = .load ty x)
  {b:Nat} {cs:Array Value} (hx:a.eval x = .pointer (some ⟨b,0,none⟩)) (hB:Blk w b ty cs) {d:TypeDesc} (hu:P.underlying ty=some d) (hd:(match d with | .struct _ | .array _ _=>true|_=>false)=true) (hi:(P.info? ty).map (·.size)=some cs.size)
  (h:wpList P ops Q rest (a.put op.dst (.agg cs)) w):wpList P ops Q (op :: rest) a w:=by
 have hrun:=run_loadVar_row (P:=P) w b ty ty cs (0,0) d hB hu hd hi
 refine wpList_plain hgd fun _ hK=>?_
 unfold Oper.wp execOp
 simp only [ho,hx,Instr.loadAt,Instr.sureAddr,Sem.run_bind,Sem.run_pure,Result.andThen_ok,hrun]
 exact hK _ _ h
theorem below_sto {B:Nat} {a w w':World} {g:Nat} (h:Below B a w) (hg:w.grownBy w' (some g)) (hB:B≤w.heap.size) (hgB:B≤g):Below B a w':=h.grown hg hB (fun k hk=>by injection hk with hk;omega)
theorem blk_sto {w w':World} {g k:Nat} {t:TypeId} {cs:Array Value} (h:Blk w k t cs) (hg:w.grownBy w' (some g)) (hne:k≠g):Blk w' k t cs:=h.grown hg (by simpa using hne)
theorem yieldsIf_lod {P:Program} {ops:Array Oper} {S:World→Prop} {op:Oper} {a:Act} (hw:Region.wanted op (yielded ops a.tmps)=true) (ty:TypeId) (x:Operand) (ho:op.op = .load ty x)
  {b:Nat} {cs:Array Value} (hx:a.eval x = .pointer (some ⟨b,0,none⟩)) {d:TypeDesc} (hS:∀ w,S w→Blk w b ty cs) (hu:P.underlying ty=some d) (hd:(match d with | .struct _ | .array _ _=>true|_=>false)=true) (hi:(P.info? ty).map (·.size)=some cs.size):YieldsIf P ops S op (.agg cs) a:=
 .inl ⟨hw,fun w hw'=>by
  have hrun:=run_loadVar_row (P:=P) w b ty ty cs (0,0) d (hS w hw') hu hd hi
  unfold execOp
  simp only [ho,hx,Instr.loadAt,Instr.sureAddr,Sem.run_bind,Sem.run_pure,Result.andThen_ok,hrun]⟩
end Go.Proofs.YtgdcofbnbiclmaaGreatDoor

