import Derived.Test.YtgpkgegpcgiokaaGreatDoorQCall
import Derived.Test.YtgpkgegpcgiokaaGreatDoorQOwn
import Derived.Deep.QuietTactic
import Derived.BigQuiet
namespace Go.Proofs.YtgpkgegpcgiokaaGreatDoor
set_option linter.all false
open Go.RowKit
def Itm.zero (x : Itm) : Bool := x.client == 0 && zeroCall x.seq x.cmd.kind x.cmd.key x.cmd.field x.cmd.text x.cmd.n
end Go.Proofs.YtgpkgegpcgiokaaGreatDoor

