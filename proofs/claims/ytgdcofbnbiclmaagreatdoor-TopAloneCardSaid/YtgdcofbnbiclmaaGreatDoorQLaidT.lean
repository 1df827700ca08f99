import Derived.Test.YtgdcofbnbiclmaaGreatDoorQCall
import Derived.Test.YtgdcofbnbiclmaaGreatDoorTie
import Derived.Test.YtgdcofbnbiclmaaGreatDoorCards
import Derived.LaidMore
import Derived.SevenTiedAt
import Derived.JoinedOf
namespace Go.Proofs.YtgdcofbnbiclmaaGreatDoor
set_option linter.all false
set_option maxHeartbeats 32000000
open Go.ChangeShapes Go.WideShapes Go.ChangeAt Go.RowKit
abbrev laidN:List (String×DataW Unit):=[("rostrum/client.nothing",Rows.laid_rostrum_client_nothing)]
set_option maxRecDepth 100000 in
theorem enterN:Tryz.pinned.checked.prog.mayEnter=true:=by kernel_rfl
set_option maxRecDepth 100000 in
theorem liftsN:(false == Tryz.pinned.checked.prog.liftsFinal)=true:=by kernel_rfl
set_option maxRecDepth 100000 in
theorem mainN:Tryz.pinned.checked.prog.mainIs=some (Rows.topTrimCard.stood.harness.1,Rows.topTrimCard.stood.harness.2.toList):=by kernel_rfl
set_option maxRecDepth 100000 in
theorem laidN1:laidOutB Tryz.pinned.checked.prog=true:=by kernel_rfl
set_option maxRecDepth 100000 in
theorem laidN2:mapsRowed Tryz.pinned.checked.prog=true:=by kernel_rfl
set_option maxRecDepth 100000 in
theorem heardN:Tryz.pinned.checked.prog.stopsHeard=true:=by kernel_rfl
set_option maxRecDepth 100000 in
theorem keysN:(Rows.topTrimRow.plainKeys == Tryz.pinned.checked.prog.plainKeys)=true:=by kernel_rfl
theorem door_met (os:Os) (args:Array Value):laidMetH Tryz.prog laidN ((World.doorLaid Tryz.prog 14 os).forCall (fun _ _=>0) ⟨#[],args,[]⟩).memory:=
 laidMetH_of_parts3 (fuel:=8) (laidMet_of_run' 8 (by kernel_rfl) (by kernel_rfl)) (by kernel_rfl) (by kernel_rfl)
end Go.Proofs.YtgdcofbnbiclmaaGreatDoor

