/-
  DERIVED. GIVEN WITH THE SEED: THE CARDS: each row of YtgpkgegpcgiokaaGreatDoorRows.lean that lists a variable, with what it lists TIED to the program's text (the seventh form; the later family's looks); each row that meets fmt, with fmt's text TOLD by the authors' own Lean function (tested against real Go, not proved from fmt's source: count such statements apart). THE CARD IS WHAT COUNTS. Prove the row's statement (the work); the ties are given (YtgpkgegpcgiokaaGreatDoorTie.lean); close each card by the builder's one call (the guide's Derived/Test/ToyasCard.lean, 'card_holds'). Laid BY PROGRAM, IN A SANDBOX (cutbox-door.mjs). By AI agents, Wed Nov 11 2026. No macro, syntax, notation, axiom, sorry.
-/
import Derived.Test.YtgpkgegpcgiokaaGreatDoorRows
import GoSem.ClaimSeven
namespace Go.Proofs.YtgpkgegpcgiokaaGreatDoor
namespace Rows

/-- THE TIED CARD OF 'rostrumkeep.MachineMay'. -/
def machineMayCard : Claim7 := { stood := { row := machineMayRow, standIns := [], harness := (true, "297fa6d805f1d8ce56ddf391a9837fe24d3f21365e7cf4a5c24e0e5eefedb8ed"), looks := false }, kinds := [], alts := [], laidByText := true, laidKinds := [.data], laidTests := true, laidLooks := .later }
def MachineMayCardSaid : Prop := Claim7.holds Tryz.pinned (.plain (OpenSpec.ofChange machineMaySpec)) machineMayCard

/-- THE TIED CARD OF 'rostrumkeep.OnceDone'. -/
def onceDoneCard : Claim7 := { stood := { row := onceDoneRow, standIns := [], harness := (true, "297fa6d805f1d8ce56ddf391a9837fe24d3f21365e7cf4a5c24e0e5eefedb8ed"), looks := false }, kinds := [], alts := [], laidByText := true, laidKinds := [.data], laidTests := true, laidLooks := .later }
def OnceDoneCardSaid : Prop := Claim7.holds Tryz.pinned (.plain (OpenSpec.ofChange onceDoneSpec)) onceDoneCard

/-- THE TIED CARD OF 'rostrumkeep.OpenIds'. -/
def openIdsCard : Claim7 := { stood := { row := openIdsRow, standIns := [], harness := (true, "297fa6d805f1d8ce56ddf391a9837fe24d3f21365e7cf4a5c24e0e5eefedb8ed"), looks := false }, kinds := [], alts := [], laidByText := true, laidKinds := [.data], laidTests := true, laidLooks := .later }
def OpenIdsCardSaid : Prop := Claim7.holds Tryz.pinned (.plain (OpenSpec.ofChange openIdsSpec)) openIdsCard

/-- THE TIED CARD OF 'rostrumkeep.GoneTold'. -/
def goneToldCard : Claim7 := { stood := { row := goneToldRow, standIns := [], harness := (true, "297fa6d805f1d8ce56ddf391a9837fe24d3f21365e7cf4a5c24e0e5eefedb8ed"), looks := false }, kinds := [], alts := [], laidByText := true, laidKinds := [.data], laidTests := true, laidLooks := .later }
def GoneToldCardSaid : Prop := Claim7.holds Tryz.pinned (.plain (OpenSpec.ofChange goneToldSpec)) goneToldCard

/-- THE TIED CARD OF 'rostrumkeep.OldGoes'. -/
def oldGoesCard : Claim7 := { stood := { row := oldGoesRow, standIns := [], harness := (true, "297fa6d805f1d8ce56ddf391a9837fe24d3f21365e7cf4a5c24e0e5eefedb8ed"), looks := false }, kinds := [], alts := [], laidByText := true, laidKinds := [.data], laidTests := true, laidLooks := .later }
def OldGoesCardSaid : Prop := Claim7.holds Tryz.pinned (.plain (OpenSpec.ofChange oldGoesSpec)) oldGoesCard

/-- THE TIED CARD OF 'rostrumkeep.OrderTold'. -/
def orderToldCard : Claim7 := { stood := { row := orderToldRow, standIns := [], harness := (true, "297fa6d805f1d8ce56ddf391a9837fe24d3f21365e7cf4a5c24e0e5eefedb8ed"), looks := false }, kinds := [], alts := [], laidByText := true, laidKinds := [.data], laidTests := true, laidLooks := .later }
def OrderToldCardSaid : Prop := Claim7.holds Tryz.pinned (.plain (OpenSpec.ofChange orderToldSpec)) orderToldCard

/-- THE TIED CARD OF 'rostrumkeep.ClientsApart'. -/
def clientsApartCard : Claim7 := { stood := { row := clientsApartRow, standIns := [], harness := (true, "297fa6d805f1d8ce56ddf391a9837fe24d3f21365e7cf4a5c24e0e5eefedb8ed"), looks := false }, kinds := [], alts := [], laidByText := true, laidKinds := [.data], laidTests := true, laidLooks := .later }
def ClientsApartCardSaid : Prop := Claim7.holds Tryz.pinned (.plain (OpenSpec.ofChange clientsApartSpec)) clientsApartCard

/-- THE TIED CARD OF 'rostrumkeep.SeqRuns'. -/
def seqRunsCard : Claim7 := { stood := { row := seqRunsRow, standIns := [], harness := (true, "297fa6d805f1d8ce56ddf391a9837fe24d3f21365e7cf4a5c24e0e5eefedb8ed"), looks := false }, kinds := [], alts := [], laidByText := true, laidKinds := [.data], laidTests := true, laidLooks := .later }
def SeqRunsCardSaid : Prop := Claim7.holds Tryz.pinned (.plain (OpenSpec.ofChange seqRunsSpec)) seqRunsCard

/-- THE TIED CARD OF 'rostrumkeep.SnapBad'. -/
def snapBadCard : Claim7 := { stood := { row := snapBadRow, standIns := [], harness := (true, "297fa6d805f1d8ce56ddf391a9837fe24d3f21365e7cf4a5c24e0e5eefedb8ed"), looks := false }, kinds := [], alts := [], laidByText := true, laidKinds := [.data], laidTests := true, laidLooks := .later }
def SnapBadCardSaid : Prop := Claim7.holds Tryz.pinned (.plain (OpenSpec.ofChange snapBadSpec)) snapBadCard

/-- THE TIED CARD OF 'rostrumkeep.RestFits'. -/
def restFitsCard : Claim7 := { stood := { row := restFitsRow, standIns := [], harness := (true, "297fa6d805f1d8ce56ddf391a9837fe24d3f21365e7cf4a5c24e0e5eefedb8ed"), looks := false }, kinds := [], alts := [], laidByText := true, laidKinds := [.data], laidTests := true, laidLooks := .later }
def RestFitsCardSaid : Prop := Claim7.holds Tryz.pinned (.plain (OpenSpec.ofChange restFitsSpec)) restFitsCard

/-- THE TIED CARD OF 'rostrumkeep.MachineBack'. -/
def machineBackCard : Claim7 := { stood := { row := machineBackRow, standIns := [], harness := (true, "297fa6d805f1d8ce56ddf391a9837fe24d3f21365e7cf4a5c24e0e5eefedb8ed"), looks := false }, kinds := [], alts := [], laidByText := true, laidKinds := [.data], laidTests := true, laidLooks := .later }
def MachineBackCardSaid : Prop := Claim7.holds Tryz.pinned (.plain (OpenSpec.ofChange machineBackSpec)) machineBackCard

/-- THE TIED CARD OF 'rostrumkeep.MachineTorn'. -/
def machineTornCard : Claim7 := { stood := { row := machineTornRow, standIns := [], harness := (true, "297fa6d805f1d8ce56ddf391a9837fe24d3f21365e7cf4a5c24e0e5eefedb8ed"), looks := false }, kinds := [], alts := [], laidByText := true, laidKinds := [.data], laidTests := true, laidLooks := .later }
def MachineTornCardSaid : Prop := Claim7.holds Tryz.pinned (.plain (OpenSpec.ofChange machineTornSpec)) machineTornCard

/-- THE TIED CARD OF 'rostrumkeep.TapeLong'. -/
def tapeLongCard : Claim7 := { stood := { row := tapeLongRow, standIns := [], harness := (true, "297fa6d805f1d8ce56ddf391a9837fe24d3f21365e7cf4a5c24e0e5eefedb8ed"), looks := false }, kinds := [], alts := [], laidByText := true, laidKinds := [.data], laidTests := true, laidLooks := .later }
def TapeLongCardSaid : Prop := Claim7.holds Tryz.pinned (.plain (OpenSpec.ofChange tapeLongSpec)) tapeLongCard

/-- THE TIED CARD OF 'rostrumkeep.CrashJust'. -/
def crashJustCard : Claim7 := { stood := { row := crashJustRow, standIns := [], harness := (true, "297fa6d805f1d8ce56ddf391a9837fe24d3f21365e7cf4a5c24e0e5eefedb8ed"), looks := false }, kinds := [], alts := [], laidByText := true, laidKinds := [.data], laidTests := true, laidLooks := .later }
def CrashJustCardSaid : Prop := Claim7.holds Tryz.pinned (.plain (OpenSpec.ofChange crashJustSpec)) crashJustCard

/-- THE TIED CARD OF 'rostrumkeep.FoldLoad'. -/
def foldLoadCard : Claim7 := { stood := { row := foldLoadRow, standIns := [], harness := (true, "297fa6d805f1d8ce56ddf391a9837fe24d3f21365e7cf4a5c24e0e5eefedb8ed"), looks := false }, kinds := [], alts := [], laidByText := true, laidKinds := [.data], laidTests := true, laidLooks := .later }
def FoldLoadCardSaid : Prop := Claim7.holds Tryz.pinned (.plain (OpenSpec.ofChange foldLoadSpec)) foldLoadCard

/-- THE TIED CARD OF 'rostrumkeep.TapeTorn'. -/
def tapeTornCard : Claim7 := { stood := { row := tapeTornRow, standIns := [], harness := (true, "297fa6d805f1d8ce56ddf391a9837fe24d3f21365e7cf4a5c24e0e5eefedb8ed"), looks := false }, kinds := [], alts := [], laidByText := true, laidKinds := [.data], laidTests := true, laidLooks := .later }
def TapeTornCardSaid : Prop := Claim7.holds Tryz.pinned (.plain (OpenSpec.ofChange tapeTornSpec)) tapeTornCard

/-- THE TIED CARD OF 'rostrumkeep.TapeOn'. -/
def tapeOnCard : Claim7 := { stood := { row := tapeOnRow, standIns := [], harness := (true, "297fa6d805f1d8ce56ddf391a9837fe24d3f21365e7cf4a5c24e0e5eefedb8ed"), looks := false }, kinds := [], alts := [], laidByText := true, laidKinds := [.data], laidTests := true, laidLooks := .later }
def TapeOnCardSaid : Prop := Claim7.holds Tryz.pinned (.plain (OpenSpec.ofChange tapeOnSpec)) tapeOnCard

/-- THE TIED CARD OF 'rostrumkeep.TapeKeeps'. -/
def tapeKeepsCard : Claim7 := { stood := { row := tapeKeepsRow, standIns := [], harness := (true, "297fa6d805f1d8ce56ddf391a9837fe24d3f21365e7cf4a5c24e0e5eefedb8ed"), looks := false }, kinds := [], alts := [], laidByText := true, laidKinds := [.data], laidTests := true, laidLooks := .later }
def TapeKeepsCardSaid : Prop := Claim7.holds Tryz.pinned (.plain (OpenSpec.ofChange tapeKeepsSpec)) tapeKeepsCard

/-- THE TIED CARD OF 'rostrumkeep.SyncSafe'. -/
def syncSafeCard : Claim7 := { stood := { row := syncSafeRow, standIns := [], harness := (true, "297fa6d805f1d8ce56ddf391a9837fe24d3f21365e7cf4a5c24e0e5eefedb8ed"), looks := false }, kinds := [], alts := [], laidByText := true, laidKinds := [.data], laidTests := true, laidLooks := .later }
def SyncSafeCardSaid : Prop := Claim7.holds Tryz.pinned (.plain (OpenSpec.ofChange syncSafeSpec)) syncSafeCard

/-- THE TIED CARD OF 'rostrumkeep.RecordBad'. -/
def recordBadCard : Claim7 := { stood := { row := recordBadRow, standIns := [], harness := (true, "297fa6d805f1d8ce56ddf391a9837fe24d3f21365e7cf4a5c24e0e5eefedb8ed"), looks := false }, kinds := [], alts := [], laidByText := true, laidKinds := [.data], laidTests := true, laidLooks := .later }
def RecordBadCardSaid : Prop := Claim7.holds Tryz.pinned (.plain (OpenSpec.ofChange recordBadSpec)) recordBadCard

/-- THE SECOND FORM's CARD OF 'rostrumkeep.MachineMay'. -/
def machineMayUptoCard : Claim7 := { stood := { row := machineMayUptoRow, standIns := [], harness := (true, "297fa6d805f1d8ce56ddf391a9837fe24d3f21365e7cf4a5c24e0e5eefedb8ed"), looks := false }, kinds := [], alts := [], laidByText := true, laidKinds := [.data], laidTests := true, laidLooks := .later }
def MachineMayUptoCardSaid : Prop := Claim7.holds Tryz.pinned (.plain (OpenSpec.upto machineMaySpec)) machineMayUptoCard

/-- THE SECOND FORM's CARD OF 'rostrumkeep.OnceDone'. -/
def onceDoneUptoCard : Claim7 := { stood := { row := onceDoneUptoRow, standIns := [], harness := (true, "297fa6d805f1d8ce56ddf391a9837fe24d3f21365e7cf4a5c24e0e5eefedb8ed"), looks := false }, kinds := [], alts := [], laidByText := true, laidKinds := [.data], laidTests := true, laidLooks := .later }
def OnceDoneUptoCardSaid : Prop := Claim7.holds Tryz.pinned (.plain (OpenSpec.upto onceDoneSpec)) onceDoneUptoCard

/-- THE SECOND FORM's CARD OF 'rostrumkeep.OpenIds'. -/
def openIdsUptoCard : Claim7 := { stood := { row := openIdsUptoRow, standIns := [], harness := (true, "297fa6d805f1d8ce56ddf391a9837fe24d3f21365e7cf4a5c24e0e5eefedb8ed"), looks := false }, kinds := [], alts := [], laidByText := true, laidKinds := [.data], laidTests := true, laidLooks := .later }
def OpenIdsUptoCardSaid : Prop := Claim7.holds Tryz.pinned (.plain (OpenSpec.upto openIdsSpec)) openIdsUptoCard

/-- THE SECOND FORM's CARD OF 'rostrumkeep.GoneTold'. -/
def goneToldUptoCard : Claim7 := { stood := { row := goneToldUptoRow, standIns := [], harness := (true, "297fa6d805f1d8ce56ddf391a9837fe24d3f21365e7cf4a5c24e0e5eefedb8ed"), looks := false }, kinds := [], alts := [], laidByText := true, laidKinds := [.data], laidTests := true, laidLooks := .later }
def GoneToldUptoCardSaid : Prop := Claim7.holds Tryz.pinned (.plain (OpenSpec.upto goneToldSpec)) goneToldUptoCard

/-- THE SECOND FORM's CARD OF 'rostrumkeep.OldGoes'. -/
def oldGoesUptoCard : Claim7 := { stood := { row := oldGoesUptoRow, standIns := [], harness := (true, "297fa6d805f1d8ce56ddf391a9837fe24d3f21365e7cf4a5c24e0e5eefedb8ed"), looks := false }, kinds := [], alts := [], laidByText := true, laidKinds := [.data], laidTests := true, laidLooks := .later }
def OldGoesUptoCardSaid : Prop := Claim7.holds Tryz.pinned (.plain (OpenSpec.upto oldGoesSpec)) oldGoesUptoCard

/-- THE SECOND FORM's CARD OF 'rostrumkeep.OrderTold'. -/
def orderToldUptoCard : Claim7 := { stood := { row := orderToldUptoRow, standIns := [], harness := (true, "297fa6d805f1d8ce56ddf391a9837fe24d3f21365e7cf4a5c24e0e5eefedb8ed"), looks := false }, kinds := [], alts := [], laidByText := true, laidKinds := [.data], laidTests := true, laidLooks := .later }
def OrderToldUptoCardSaid : Prop := Claim7.holds Tryz.pinned (.plain (OpenSpec.upto orderToldSpec)) orderToldUptoCard

/-- THE SECOND FORM's CARD OF 'rostrumkeep.ClientsApart'. -/
def clientsApartUptoCard : Claim7 := { stood := { row := clientsApartUptoRow, standIns := [], harness := (true, "297fa6d805f1d8ce56ddf391a9837fe24d3f21365e7cf4a5c24e0e5eefedb8ed"), looks := false }, kinds := [], alts := [], laidByText := true, laidKinds := [.data], laidTests := true, laidLooks := .later }
def ClientsApartUptoCardSaid : Prop := Claim7.holds Tryz.pinned (.plain (OpenSpec.upto clientsApartSpec)) clientsApartUptoCard

/-- THE SECOND FORM's CARD OF 'rostrumkeep.SeqRuns'. -/
def seqRunsUptoCard : Claim7 := { stood := { row := seqRunsUptoRow, standIns := [], harness := (true, "297fa6d805f1d8ce56ddf391a9837fe24d3f21365e7cf4a5c24e0e5eefedb8ed"), looks := false }, kinds := [], alts := [], laidByText := true, laidKinds := [.data], laidTests := true, laidLooks := .later }
def SeqRunsUptoCardSaid : Prop := Claim7.holds Tryz.pinned (.plain (OpenSpec.upto seqRunsSpec)) seqRunsUptoCard

/-- THE SECOND FORM's CARD OF 'rostrumkeep.SnapBad'. -/
def snapBadUptoCard : Claim7 := { stood := { row := snapBadUptoRow, standIns := [], harness := (true, "297fa6d805f1d8ce56ddf391a9837fe24d3f21365e7cf4a5c24e0e5eefedb8ed"), looks := false }, kinds := [], alts := [], laidByText := true, laidKinds := [.data], laidTests := true, laidLooks := .later }
def SnapBadUptoCardSaid : Prop := Claim7.holds Tryz.pinned (.plain (OpenSpec.upto snapBadSpec)) snapBadUptoCard

/-- THE SECOND FORM's CARD OF 'rostrumkeep.RestFits'. -/
def restFitsUptoCard : Claim7 := { stood := { row := restFitsUptoRow, standIns := [], harness := (true, "297fa6d805f1d8ce56ddf391a9837fe24d3f21365e7cf4a5c24e0e5eefedb8ed"), looks := false }, kinds := [], alts := [], laidByText := true, laidKinds := [.data], laidTests := true, laidLooks := .later }
def RestFitsUptoCardSaid : Prop := Claim7.holds Tryz.pinned (.plain (OpenSpec.upto restFitsSpec)) restFitsUptoCard

/-- THE SECOND FORM's CARD OF 'rostrumkeep.MachineBack'. -/
def machineBackUptoCard : Claim7 := { stood := { row := machineBackUptoRow, standIns := [], harness := (true, "297fa6d805f1d8ce56ddf391a9837fe24d3f21365e7cf4a5c24e0e5eefedb8ed"), looks := false }, kinds := [], alts := [], laidByText := true, laidKinds := [.data], laidTests := true, laidLooks := .later }
def MachineBackUptoCardSaid : Prop := Claim7.holds Tryz.pinned (.plain (OpenSpec.upto machineBackSpec)) machineBackUptoCard

/-- THE SECOND FORM's CARD OF 'rostrumkeep.MachineTorn'. -/
def machineTornUptoCard : Claim7 := { stood := { row := machineTornUptoRow, standIns := [], harness := (true, "297fa6d805f1d8ce56ddf391a9837fe24d3f21365e7cf4a5c24e0e5eefedb8ed"), looks := false }, kinds := [], alts := [], laidByText := true, laidKinds := [.data], laidTests := true, laidLooks := .later }
def MachineTornUptoCardSaid : Prop := Claim7.holds Tryz.pinned (.plain (OpenSpec.upto machineTornSpec)) machineTornUptoCard

/-- THE SECOND FORM's CARD OF 'rostrumkeep.TapeLong'. -/
def tapeLongUptoCard : Claim7 := { stood := { row := tapeLongUptoRow, standIns := [], harness := (true, "297fa6d805f1d8ce56ddf391a9837fe24d3f21365e7cf4a5c24e0e5eefedb8ed"), looks := false }, kinds := [], alts := [], laidByText := true, laidKinds := [.data], laidTests := true, laidLooks := .later }
def TapeLongUptoCardSaid : Prop := Claim7.holds Tryz.pinned (.plain (OpenSpec.upto tapeLongSpec)) tapeLongUptoCard

/-- THE SECOND FORM's CARD OF 'rostrumkeep.CrashJust'. -/
def crashJustUptoCard : Claim7 := { stood := { row := crashJustUptoRow, standIns := [], harness := (true, "297fa6d805f1d8ce56ddf391a9837fe24d3f21365e7cf4a5c24e0e5eefedb8ed"), looks := false }, kinds := [], alts := [], laidByText := true, laidKinds := [.data], laidTests := true, laidLooks := .later }
def CrashJustUptoCardSaid : Prop := Claim7.holds Tryz.pinned (.plain (OpenSpec.upto crashJustSpec)) crashJustUptoCard

/-- THE SECOND FORM's CARD OF 'rostrumkeep.FoldLoad'. -/
def foldLoadUptoCard : Claim7 := { stood := { row := foldLoadUptoRow, standIns := [], harness := (true, "297fa6d805f1d8ce56ddf391a9837fe24d3f21365e7cf4a5c24e0e5eefedb8ed"), looks := false }, kinds := [], alts := [], laidByText := true, laidKinds := [.data], laidTests := true, laidLooks := .later }
def FoldLoadUptoCardSaid : Prop := Claim7.holds Tryz.pinned (.plain (OpenSpec.upto foldLoadSpec)) foldLoadUptoCard

/-- THE SECOND FORM's CARD OF 'rostrumkeep.TapeTorn'. -/
def tapeTornUptoCard : Claim7 := { stood := { row := tapeTornUptoRow, standIns := [], harness := (true, "297fa6d805f1d8ce56ddf391a9837fe24d3f21365e7cf4a5c24e0e5eefedb8ed"), looks := false }, kinds := [], alts := [], laidByText := true, laidKinds := [.data], laidTests := true, laidLooks := .later }
def TapeTornUptoCardSaid : Prop := Claim7.holds Tryz.pinned (.plain (OpenSpec.upto tapeTornSpec)) tapeTornUptoCard

/-- THE SECOND FORM's CARD OF 'rostrumkeep.TapeOn'. -/
def tapeOnUptoCard : Claim7 := { stood := { row := tapeOnUptoRow, standIns := [], harness := (true, "297fa6d805f1d8ce56ddf391a9837fe24d3f21365e7cf4a5c24e0e5eefedb8ed"), looks := false }, kinds := [], alts := [], laidByText := true, laidKinds := [.data], laidTests := true, laidLooks := .later }
def TapeOnUptoCardSaid : Prop := Claim7.holds Tryz.pinned (.plain (OpenSpec.upto tapeOnSpec)) tapeOnUptoCard

/-- THE SECOND FORM's CARD OF 'rostrumkeep.TapeKeeps'. -/
def tapeKeepsUptoCard : Claim7 := { stood := { row := tapeKeepsUptoRow, standIns := [], harness := (true, "297fa6d805f1d8ce56ddf391a9837fe24d3f21365e7cf4a5c24e0e5eefedb8ed"), looks := false }, kinds := [], alts := [], laidByText := true, laidKinds := [.data], laidTests := true, laidLooks := .later }
def TapeKeepsUptoCardSaid : Prop := Claim7.holds Tryz.pinned (.plain (OpenSpec.upto tapeKeepsSpec)) tapeKeepsUptoCard

/-- THE SECOND FORM's CARD OF 'rostrumkeep.SyncSafe'. -/
def syncSafeUptoCard : Claim7 := { stood := { row := syncSafeUptoRow, standIns := [], harness := (true, "297fa6d805f1d8ce56ddf391a9837fe24d3f21365e7cf4a5c24e0e5eefedb8ed"), looks := false }, kinds := [], alts := [], laidByText := true, laidKinds := [.data], laidTests := true, laidLooks := .later }
def SyncSafeUptoCardSaid : Prop := Claim7.holds Tryz.pinned (.plain (OpenSpec.upto syncSafeSpec)) syncSafeUptoCard

/-- THE SECOND FORM's CARD OF 'rostrumkeep.RecordBad'. -/
def recordBadUptoCard : Claim7 := { stood := { row := recordBadUptoRow, standIns := [], harness := (true, "297fa6d805f1d8ce56ddf391a9837fe24d3f21365e7cf4a5c24e0e5eefedb8ed"), looks := false }, kinds := [], alts := [], laidByText := true, laidKinds := [.data], laidTests := true, laidLooks := .later }
def RecordBadUptoCardSaid : Prop := Claim7.holds Tryz.pinned (.plain (OpenSpec.upto recordBadSpec)) recordBadUptoCard
end Rows
end Go.Proofs.YtgpkgegpcgiokaaGreatDoor
