/-
  DERIVED. GIVEN WITH THE SEED: THE CARDS: each row of YtgdcofbnbiclmaaGreatDoorRows.lean that lists a variable, with what it lists TIED to the program's text (the seventh form; the later family's looks); each row that meets fmt, with fmt's text TOLD by the authors' own Lean function (tested against real Go, not proved from fmt's source: count such statements apart). THE CARD IS WHAT COUNTS. Prove the row's statement (the work); the ties are given (YtgdcofbnbiclmaaGreatDoorTie.lean); close each card by the builder's one call (the guide's Derived/Test/ToyasCard.lean, 'card_holds'). Laid BY PROGRAM, IN A SANDBOX (cutbox-door.mjs). By AI agents, Wed Nov 11 2026. No macro, syntax, notation, axiom, sorry.
-/
import Derived.Test.YtgdcofbnbiclmaaGreatDoorRows
import GoSem.ClaimSeven
namespace Go.Proofs.YtgdcofbnbiclmaaGreatDoor
namespace Rows

/-- THE TIED CARD OF 'rostrumtop.TopTrim'. -/
def topTrimCard : Claim7 := { stood := { row := topTrimRow, standIns := [], harness := (true, "aa58c2848b747ec079cf4be67563d3164c0fad5291cd601df5065c0802f688d9"), looks := false }, kinds := [], alts := [], laidByText := true, laidKinds := [.data], laidTests := true, laidLooks := .later }
def TopTrimCardSaid : Prop := Claim7.holds Tryz.pinned (.plain (OpenSpec.ofChange topTrimSpec)) topTrimCard

/-- THE TIED CARD OF 'rostrumtop.TopCatches'. -/
def topCatchesCard : Claim7 := { stood := { row := topCatchesRow, standIns := [], harness := (true, "aa58c2848b747ec079cf4be67563d3164c0fad5291cd601df5065c0802f688d9"), looks := false }, kinds := [], alts := [], laidByText := true, laidKinds := [.data], laidTests := true, laidLooks := .later }
def TopCatchesCardSaid : Prop := Claim7.holds Tryz.pinned (.plain (OpenSpec.ofChange topCatchesSpec)) topCatchesCard

/-- THE TIED CARD OF 'rostrumtop.TopTerms'. -/
def topTermsCard : Claim7 := { stood := { row := topTermsRow, standIns := [], harness := (true, "aa58c2848b747ec079cf4be67563d3164c0fad5291cd601df5065c0802f688d9"), looks := false }, kinds := [], alts := [], laidByText := true, laidKinds := [.data], laidTests := true, laidLooks := .later }
def TopTermsCardSaid : Prop := Claim7.holds Tryz.pinned (.plain (OpenSpec.ofChange topTermsSpec)) topTermsCard

/-- THE TIED CARD OF 'rostrumtop.TopTime'. -/
def topTimeCard : Claim7 := { stood := { row := topTimeRow, standIns := [], harness := (true, "aa58c2848b747ec079cf4be67563d3164c0fad5291cd601df5065c0802f688d9"), looks := false }, kinds := [], alts := [], laidByText := true, laidKinds := [.data], laidTests := true, laidLooks := .later }
def TopTimeCardSaid : Prop := Claim7.holds Tryz.pinned (.plain (OpenSpec.ofChange topTimeSpec)) topTimeCard

/-- THE TIED CARD OF 'rostrumtop.TopAlone'. -/
def topAloneCard : Claim7 := { stood := { row := topAloneRow, standIns := [], harness := (true, "aa58c2848b747ec079cf4be67563d3164c0fad5291cd601df5065c0802f688d9"), looks := false }, kinds := [], alts := [], laidByText := true, laidKinds := [.data], laidTests := true, laidLooks := .later }
def TopAloneCardSaid : Prop := Claim7.holds Tryz.pinned (.plain (OpenSpec.ofChange topAloneSpec)) topAloneCard

/-- THE TIED CARD OF 'rostrumtop.TopRefused'. -/
def topRefusedCard : Claim7 := { stood := { row := topRefusedRow, standIns := [], harness := (true, "aa58c2848b747ec079cf4be67563d3164c0fad5291cd601df5065c0802f688d9"), looks := false }, kinds := [], alts := [], laidByText := true, laidKinds := [.data], laidTests := true, laidLooks := .later }
def TopRefusedCardSaid : Prop := Claim7.holds Tryz.pinned (.plain (OpenSpec.ofChange topRefusedSpec)) topRefusedCard

/-- THE TIED CARD OF 'rostrumtop.TopNop'. -/
def topNopCard : Claim7 := { stood := { row := topNopRow, standIns := [], harness := (true, "aa58c2848b747ec079cf4be67563d3164c0fad5291cd601df5065c0802f688d9"), looks := false }, kinds := [], alts := [], laidByText := true, laidKinds := [.data], laidTests := true, laidLooks := .later }
def TopNopCardSaid : Prop := Claim7.holds Tryz.pinned (.plain (OpenSpec.ofChange topNopSpec)) topNopCard

/-- THE TIED CARD OF 'rostrumtop.TopMinor'. -/
def topMinorCard : Claim7 := { stood := { row := topMinorRow, standIns := [], harness := (true, "aa58c2848b747ec079cf4be67563d3164c0fad5291cd601df5065c0802f688d9"), looks := false }, kinds := [], alts := [], laidByText := true, laidKinds := [.data], laidTests := true, laidLooks := .later }
def TopMinorCardSaid : Prop := Claim7.holds Tryz.pinned (.plain (OpenSpec.ofChange topMinorSpec)) topMinorCard

/-- THE TIED CARD OF 'rostrumtop.TopTold'. -/
def topToldCard : Claim7 := { stood := { row := topToldRow, standIns := [], harness := (true, "aa58c2848b747ec079cf4be67563d3164c0fad5291cd601df5065c0802f688d9"), looks := false }, kinds := [], alts := [], laidByText := true, laidKinds := [.data], laidTests := true, laidLooks := .later }
def TopToldCardSaid : Prop := Claim7.holds Tryz.pinned (.plain (OpenSpec.ofChange topToldSpec)) topToldCard

/-- THE TIED CARD OF 'rostrumtop.TopCounter'. -/
def topCounterCard : Claim7 := { stood := { row := topCounterRow, standIns := [], harness := (true, "aa58c2848b747ec079cf4be67563d3164c0fad5291cd601df5065c0802f688d9"), looks := false }, kinds := [], alts := [], laidByText := true, laidKinds := [.data], laidTests := true, laidLooks := .later }
def TopCounterCardSaid : Prop := Claim7.holds Tryz.pinned (.plain (OpenSpec.ofChange topCounterSpec)) topCounterCard

/-- THE TIED CARD OF 'rostrumtop.TopRead'. -/
def topReadCard : Claim7 := { stood := { row := topReadRow, standIns := [], harness := (true, "aa58c2848b747ec079cf4be67563d3164c0fad5291cd601df5065c0802f688d9"), looks := false }, kinds := [], alts := [], laidByText := true, laidKinds := [.data], laidTests := true, laidLooks := .later }
def TopReadCardSaid : Prop := Claim7.holds Tryz.pinned (.plain (OpenSpec.ofChange topReadSpec)) topReadCard

/-- THE TIED CARD OF 'rostrumtop.TopTicks'. -/
def topTicksCard : Claim7 := { stood := { row := topTicksRow, standIns := [], harness := (true, "aa58c2848b747ec079cf4be67563d3164c0fad5291cd601df5065c0802f688d9"), looks := false }, kinds := [], alts := [], laidByText := true, laidKinds := [.data], laidTests := true, laidLooks := .later }
def TopTicksCardSaid : Prop := Claim7.holds Tryz.pinned (.plain (OpenSpec.ofChange topTicksSpec)) topTicksCard

/-- THE TIED CARD OF 'rostrumtop.TopStart'. -/
def topStartCard : Claim7 := { stood := { row := topStartRow, standIns := [], harness := (true, "aa58c2848b747ec079cf4be67563d3164c0fad5291cd601df5065c0802f688d9"), looks := false }, kinds := [], alts := [], laidByText := true, laidKinds := [.data], laidTests := true, laidLooks := .later }
def TopStartCardSaid : Prop := Claim7.holds Tryz.pinned (.plain (OpenSpec.ofChange topStartSpec)) topStartCard

/-- THE TIED CARD OF 'rostrumtop.TopLeadersAny'. -/
def topLeadersAnyCard : Claim7 := { stood := { row := topLeadersAnyRow, standIns := [], harness := (true, "aa58c2848b747ec079cf4be67563d3164c0fad5291cd601df5065c0802f688d9"), looks := false }, kinds := [], alts := [], laidByText := true, laidKinds := [.data], laidTests := true, laidLooks := .later }
def TopLeadersAnyCardSaid : Prop := Claim7.holds Tryz.pinned (.plain (OpenSpec.ofChange topLeadersAnySpec)) topLeadersAnyCard

/-- THE TIED CARD OF 'rostrumtop.TopLogsAny'. -/
def topLogsAnyCard : Claim7 := { stood := { row := topLogsAnyRow, standIns := [], harness := (true, "aa58c2848b747ec079cf4be67563d3164c0fad5291cd601df5065c0802f688d9"), looks := false }, kinds := [], alts := [], laidByText := true, laidKinds := [.data], laidTests := true, laidLooks := .later }
def TopLogsAnyCardSaid : Prop := Claim7.holds Tryz.pinned (.plain (OpenSpec.ofChange topLogsAnySpec)) topLogsAnyCard

/-- THE TIED CARD OF 'rostrumtop.TopDoneAny'. -/
def topDoneAnyCard : Claim7 := { stood := { row := topDoneAnyRow, standIns := [], harness := (true, "aa58c2848b747ec079cf4be67563d3164c0fad5291cd601df5065c0802f688d9"), looks := false }, kinds := [], alts := [], laidByText := true, laidKinds := [.data], laidTests := true, laidLooks := .later }
def TopDoneAnyCardSaid : Prop := Claim7.holds Tryz.pinned (.plain (OpenSpec.ofChange topDoneAnySpec)) topDoneAnyCard

/-- THE TIED CARD OF 'rostrumtop.TopReplayAny'. -/
def topReplayAnyCard : Claim7 := { stood := { row := topReplayAnyRow, standIns := [], harness := (true, "aa58c2848b747ec079cf4be67563d3164c0fad5291cd601df5065c0802f688d9"), looks := false }, kinds := [], alts := [], laidByText := true, laidKinds := [.data], laidTests := true, laidLooks := .later }
def TopReplayAnyCardSaid : Prop := Claim7.holds Tryz.pinned (.plain (OpenSpec.ofChange topReplayAnySpec)) topReplayAnyCard

/-- THE TIED CARD OF 'rostrumtop.TopKeptAny'. -/
def topKeptAnyCard : Claim7 := { stood := { row := topKeptAnyRow, standIns := [], harness := (true, "aa58c2848b747ec079cf4be67563d3164c0fad5291cd601df5065c0802f688d9"), looks := false }, kinds := [], alts := [], laidByText := true, laidKinds := [.data], laidTests := true, laidLooks := .later }
def TopKeptAnyCardSaid : Prop := Claim7.holds Tryz.pinned (.plain (OpenSpec.ofChange topKeptAnySpec)) topKeptAnyCard

/-- THE SECOND FORM's CARD OF 'rostrumtop.TopTrim'. -/
def topTrimUptoCard : Claim7 := { stood := { row := topTrimUptoRow, standIns := [], harness := (true, "aa58c2848b747ec079cf4be67563d3164c0fad5291cd601df5065c0802f688d9"), looks := false }, kinds := [], alts := [], laidByText := true, laidKinds := [.data], laidTests := true, laidLooks := .later }
def TopTrimUptoCardSaid : Prop := Claim7.holds Tryz.pinned (.plain (OpenSpec.upto topTrimSpec)) topTrimUptoCard

/-- THE SECOND FORM's CARD OF 'rostrumtop.TopCatches'. -/
def topCatchesUptoCard : Claim7 := { stood := { row := topCatchesUptoRow, standIns := [], harness := (true, "aa58c2848b747ec079cf4be67563d3164c0fad5291cd601df5065c0802f688d9"), looks := false }, kinds := [], alts := [], laidByText := true, laidKinds := [.data], laidTests := true, laidLooks := .later }
def TopCatchesUptoCardSaid : Prop := Claim7.holds Tryz.pinned (.plain (OpenSpec.upto topCatchesSpec)) topCatchesUptoCard

/-- THE SECOND FORM's CARD OF 'rostrumtop.TopTerms'. -/
def topTermsUptoCard : Claim7 := { stood := { row := topTermsUptoRow, standIns := [], harness := (true, "aa58c2848b747ec079cf4be67563d3164c0fad5291cd601df5065c0802f688d9"), looks := false }, kinds := [], alts := [], laidByText := true, laidKinds := [.data], laidTests := true, laidLooks := .later }
def TopTermsUptoCardSaid : Prop := Claim7.holds Tryz.pinned (.plain (OpenSpec.upto topTermsSpec)) topTermsUptoCard

/-- THE SECOND FORM's CARD OF 'rostrumtop.TopTime'. -/
def topTimeUptoCard : Claim7 := { stood := { row := topTimeUptoRow, standIns := [], harness := (true, "aa58c2848b747ec079cf4be67563d3164c0fad5291cd601df5065c0802f688d9"), looks := false }, kinds := [], alts := [], laidByText := true, laidKinds := [.data], laidTests := true, laidLooks := .later }
def TopTimeUptoCardSaid : Prop := Claim7.holds Tryz.pinned (.plain (OpenSpec.upto topTimeSpec)) topTimeUptoCard

/-- THE SECOND FORM's CARD OF 'rostrumtop.TopAlone'. -/
def topAloneUptoCard : Claim7 := { stood := { row := topAloneUptoRow, standIns := [], harness := (true, "aa58c2848b747ec079cf4be67563d3164c0fad5291cd601df5065c0802f688d9"), looks := false }, kinds := [], alts := [], laidByText := true, laidKinds := [.data], laidTests := true, laidLooks := .later }
def TopAloneUptoCardSaid : Prop := Claim7.holds Tryz.pinned (.plain (OpenSpec.upto topAloneSpec)) topAloneUptoCard

/-- THE SECOND FORM's CARD OF 'rostrumtop.TopRefused'. -/
def topRefusedUptoCard : Claim7 := { stood := { row := topRefusedUptoRow, standIns := [], harness := (true, "aa58c2848b747ec079cf4be67563d3164c0fad5291cd601df5065c0802f688d9"), looks := false }, kinds := [], alts := [], laidByText := true, laidKinds := [.data], laidTests := true, laidLooks := .later }
def TopRefusedUptoCardSaid : Prop := Claim7.holds Tryz.pinned (.plain (OpenSpec.upto topRefusedSpec)) topRefusedUptoCard

/-- THE SECOND FORM's CARD OF 'rostrumtop.TopNop'. -/
def topNopUptoCard : Claim7 := { stood := { row := topNopUptoRow, standIns := [], harness := (true, "aa58c2848b747ec079cf4be67563d3164c0fad5291cd601df5065c0802f688d9"), looks := false }, kinds := [], alts := [], laidByText := true, laidKinds := [.data], laidTests := true, laidLooks := .later }
def TopNopUptoCardSaid : Prop := Claim7.holds Tryz.pinned (.plain (OpenSpec.upto topNopSpec)) topNopUptoCard

/-- THE SECOND FORM's CARD OF 'rostrumtop.TopMinor'. -/
def topMinorUptoCard : Claim7 := { stood := { row := topMinorUptoRow, standIns := [], harness := (true, "aa58c2848b747ec079cf4be67563d3164c0fad5291cd601df5065c0802f688d9"), looks := false }, kinds := [], alts := [], laidByText := true, laidKinds := [.data], laidTests := true, laidLooks := .later }
def TopMinorUptoCardSaid : Prop := Claim7.holds Tryz.pinned (.plain (OpenSpec.upto topMinorSpec)) topMinorUptoCard

/-- THE SECOND FORM's CARD OF 'rostrumtop.TopTold'. -/
def topToldUptoCard : Claim7 := { stood := { row := topToldUptoRow, standIns := [], harness := (true, "aa58c2848b747ec079cf4be67563d3164c0fad5291cd601df5065c0802f688d9"), looks := false }, kinds := [], alts := [], laidByText := true, laidKinds := [.data], laidTests := true, laidLooks := .later }
def TopToldUptoCardSaid : Prop := Claim7.holds Tryz.pinned (.plain (OpenSpec.upto topToldSpec)) topToldUptoCard

/-- THE SECOND FORM's CARD OF 'rostrumtop.TopCounter'. -/
def topCounterUptoCard : Claim7 := { stood := { row := topCounterUptoRow, standIns := [], harness := (true, "aa58c2848b747ec079cf4be67563d3164c0fad5291cd601df5065c0802f688d9"), looks := false }, kinds := [], alts := [], laidByText := true, laidKinds := [.data], laidTests := true, laidLooks := .later }
def TopCounterUptoCardSaid : Prop := Claim7.holds Tryz.pinned (.plain (OpenSpec.upto topCounterSpec)) topCounterUptoCard

/-- THE SECOND FORM's CARD OF 'rostrumtop.TopRead'. -/
def topReadUptoCard : Claim7 := { stood := { row := topReadUptoRow, standIns := [], harness := (true, "aa58c2848b747ec079cf4be67563d3164c0fad5291cd601df5065c0802f688d9"), looks := false }, kinds := [], alts := [], laidByText := true, laidKinds := [.data], laidTests := true, laidLooks := .later }
def TopReadUptoCardSaid : Prop := Claim7.holds Tryz.pinned (.plain (OpenSpec.upto topReadSpec)) topReadUptoCard

/-- THE SECOND FORM's CARD OF 'rostrumtop.TopTicks'. -/
def topTicksUptoCard : Claim7 := { stood := { row := topTicksUptoRow, standIns := [], harness := (true, "aa58c2848b747ec079cf4be67563d3164c0fad5291cd601df5065c0802f688d9"), looks := false }, kinds := [], alts := [], laidByText := true, laidKinds := [.data], laidTests := true, laidLooks := .later }
def TopTicksUptoCardSaid : Prop := Claim7.holds Tryz.pinned (.plain (OpenSpec.upto topTicksSpec)) topTicksUptoCard

/-- THE SECOND FORM's CARD OF 'rostrumtop.TopStart'. -/
def topStartUptoCard : Claim7 := { stood := { row := topStartUptoRow, standIns := [], harness := (true, "aa58c2848b747ec079cf4be67563d3164c0fad5291cd601df5065c0802f688d9"), looks := false }, kinds := [], alts := [], laidByText := true, laidKinds := [.data], laidTests := true, laidLooks := .later }
def TopStartUptoCardSaid : Prop := Claim7.holds Tryz.pinned (.plain (OpenSpec.upto topStartSpec)) topStartUptoCard

/-- THE SECOND FORM's CARD OF 'rostrumtop.TopLeadersAny'. -/
def topLeadersAnyUptoCard : Claim7 := { stood := { row := topLeadersAnyUptoRow, standIns := [], harness := (true, "aa58c2848b747ec079cf4be67563d3164c0fad5291cd601df5065c0802f688d9"), looks := false }, kinds := [], alts := [], laidByText := true, laidKinds := [.data], laidTests := true, laidLooks := .later }
def TopLeadersAnyUptoCardSaid : Prop := Claim7.holds Tryz.pinned (.plain (OpenSpec.upto topLeadersAnySpec)) topLeadersAnyUptoCard

/-- THE SECOND FORM's CARD OF 'rostrumtop.TopLogsAny'. -/
def topLogsAnyUptoCard : Claim7 := { stood := { row := topLogsAnyUptoRow, standIns := [], harness := (true, "aa58c2848b747ec079cf4be67563d3164c0fad5291cd601df5065c0802f688d9"), looks := false }, kinds := [], alts := [], laidByText := true, laidKinds := [.data], laidTests := true, laidLooks := .later }
def TopLogsAnyUptoCardSaid : Prop := Claim7.holds Tryz.pinned (.plain (OpenSpec.upto topLogsAnySpec)) topLogsAnyUptoCard

/-- THE SECOND FORM's CARD OF 'rostrumtop.TopDoneAny'. -/
def topDoneAnyUptoCard : Claim7 := { stood := { row := topDoneAnyUptoRow, standIns := [], harness := (true, "aa58c2848b747ec079cf4be67563d3164c0fad5291cd601df5065c0802f688d9"), looks := false }, kinds := [], alts := [], laidByText := true, laidKinds := [.data], laidTests := true, laidLooks := .later }
def TopDoneAnyUptoCardSaid : Prop := Claim7.holds Tryz.pinned (.plain (OpenSpec.upto topDoneAnySpec)) topDoneAnyUptoCard

/-- THE SECOND FORM's CARD OF 'rostrumtop.TopReplayAny'. -/
def topReplayAnyUptoCard : Claim7 := { stood := { row := topReplayAnyUptoRow, standIns := [], harness := (true, "aa58c2848b747ec079cf4be67563d3164c0fad5291cd601df5065c0802f688d9"), looks := false }, kinds := [], alts := [], laidByText := true, laidKinds := [.data], laidTests := true, laidLooks := .later }
def TopReplayAnyUptoCardSaid : Prop := Claim7.holds Tryz.pinned (.plain (OpenSpec.upto topReplayAnySpec)) topReplayAnyUptoCard

/-- THE SECOND FORM's CARD OF 'rostrumtop.TopKeptAny'. -/
def topKeptAnyUptoCard : Claim7 := { stood := { row := topKeptAnyUptoRow, standIns := [], harness := (true, "aa58c2848b747ec079cf4be67563d3164c0fad5291cd601df5065c0802f688d9"), looks := false }, kinds := [], alts := [], laidByText := true, laidKinds := [.data], laidTests := true, laidLooks := .later }
def TopKeptAnyUptoCardSaid : Prop := Claim7.holds Tryz.pinned (.plain (OpenSpec.upto topKeptAnySpec)) topKeptAnyUptoCard
end Rows
end Go.Proofs.YtgdcofbnbiclmaaGreatDoor
