import Derived.Test.YtgdcofbnbiclmaaGreatDoorQCmp
import Derived.Test.YtgdcofbnbiclmaaGreatDoorQBase
namespace Go.Proofs.YtgdcofbnbiclmaaGreatDoor
set_option linter.all false
set_option maxHeartbeats 32000000
open Go.RowKit
def foundAt {α:Type} (l:List α) (k:Nat) (p:α→Bool):Bool:=match l[k]? with|some y=>p y|none=>false
theorem beq_cmpB (y x:ByteArray):(y.toList == x.toList)=(cmpB y x == 0):=by
 rw [Bool.eq_iff_iff,beq_iff_eq,beq_iff_eq,cmpB_eq,Lib.toList_data,Lib.toList_data]
 exact ⟨bytes_ext,fun h=>by rw [h]⟩
end Go.Proofs.YtgdcofbnbiclmaaGreatDoor

