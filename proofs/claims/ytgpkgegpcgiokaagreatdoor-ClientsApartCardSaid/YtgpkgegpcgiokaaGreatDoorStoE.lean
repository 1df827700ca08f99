/- rostrumkeep.entry. -/
import Derived.Test.YtgpkgegpcgiokaaGreatDoorStoA
namespace Go.Proofs.YtgpkgegpcgiokaaGreatDoor
set_option linter.all false
open Go.RowKit
end Go.Proofs.YtgpkgegpcgiokaaGreatDoor
