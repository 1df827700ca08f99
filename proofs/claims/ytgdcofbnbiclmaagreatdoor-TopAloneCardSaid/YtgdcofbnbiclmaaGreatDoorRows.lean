/-
  NARROWER THAN 'FOR EVERY INPUT', by the rows' own cells (each row's printed sentence says how): TopTrim: laid · TopCatches: laid · TopTerms: laid · TopTime: laid · TopAlone: laid · TopRefused: laid · TopNop: laid · TopMinor: laid · TopTold: laid · TopCounter: laid · TopRead: laid · TopTicks: laid · TopStart: laid · TopLeadersAny: laid · TopLogsAny: laid · TopDoneAny: laid · TopReplayAny: laid · TopKeptAny: laid.
  DERIVED. THE GIVEN ROWS OF THIS SEAT. 18 by the template 'for every input the law returns true; each argument reads behind the call as it read before'; 0 by the template 'total and deterministic' (their statements: YtgdcofbnbiclmaaGreatDoorTotals.lean).
  GIVEN WITH THE SEED: the statements are not yours to turn. If you find one false, say at which input.
  Laid BY PROGRAM, IN A SANDBOX (cutbox-rows.mjs): the forced cells as the released guide's own fill.sh prints them over the translation 29e1142288142ed5… (all of the seat's roots in one cut). By AI agents, Wed Nov 11 2026. No macro, syntax, notation, axiom, sorry.
-/
import Derived.Test.YtgdcofbnbiclmaaGreatDoorChecked
import GoSem.Claim
import GoSem.ClaimJoined
import GoSem.ClaimMapViews
import Derived.JoinedTies
import Derived.KernelRfl
namespace Go.Proofs.YtgdcofbnbiclmaaGreatDoor
/- THE CELL 'sum', in the pinned program and in every row, IS THE sha256 OF THE DUMP (.gsa) THAT YtgdcofbnbiclmaaGreatDoorProg.lean LOADS. Nothing in Lean hashes anything: it is a label: what it is worth is what the hold of that sum in a sandbox is worth. -/
noncomputable def Tryz.pinned : Pinned := { name := "ytgdcofbnbiclmaagreatdoor", sum := "29e1142288142ed57d0ebfe4034f5d764119579d8b9083a7f9066eacf5ad9615", checked := Tryz.checked }
namespace Rows
def none {H : Type} : Left H := { results := [], args := [] }

/- WHAT THE LISTED PACKAGE-LEVEL VARIABLES READ AS WHEN THE CALL BEGINS. Each datum BY PROGRAM (the guide's laid-datum.mjs) off the statement by which the dump's own 'gosem.cut.vars' lays the variable. In a bare row this is a premise. The card (YtgdcofbnbiclmaaGreatDoorCards.lean) ties it to the program's text. -/
def laid_rostrum_client_nothing {H : Type} : DataW H := .agg [.lit (.int .i64 22), .lit (.string []), .lit (.string []), .lit (.string []), .lit (.int .i64 0)]

/-- 'rostrumtop.TopTrim': WHATEVER THE INPUT: true; the input reads as it did. -/
def topTrimSpec : ChangeSpec := { name := "topTrim", fn := fun _ => fun
  | [d1, d2] => { results := [.lit (.bool true)], args := [d1, d2] }
  | _ => none }
def topTrimRow : OpenClaim := { program := "ytgdcofbnbiclmaagreatdoor", sum := "29e1142288142ed57d0ebfe4034f5d764119579d8b9083a7f9066eacf5ad9615", func := "rostrum/rostrumtop.TopTrim", spec := "topTrim", inPlace := ["internal/bytealg.abigen_runtime_cmpstring", "slices.overlaps[rostrum/api.Pair]", "slices.overlaps[string]", "slices.overlaps[rostrum/api.Score]", "slices.overlaps[rostrum/api.Entry]"], unfollowed := true, recurses := true, named := ["rostrum/client.nothing"], apart := false, laid := [("rostrum/client.nothing", laid_rostrum_client_nothing)] }
def TopTrimSaid : Prop := topTrimRow.holds Tryz.pinned (OpenSpec.ofChange topTrimSpec)

/-- ITS FALSE NEIGHBOUR: 'it returns false'. Refute it at one input. -/
def topTrimWrong : ChangeSpec := { name := "topTrim", fn := fun _ => fun
  | [d1, d2] => { results := [.lit (.bool false)], args := [d1, d2] }
  | _ => none }
def TopTrimWrongFalsely : Prop := topTrimRow.holds Tryz.pinned (OpenSpec.ofChange topTrimWrong)

/-- 'rostrumtop.TopCatches': WHATEVER THE INPUT: true; the input reads as it did. -/
def topCatchesSpec : ChangeSpec := { name := "topCatches", fn := fun _ => fun
  | [d1, d2] => { results := [.lit (.bool true)], args := [d1, d2] }
  | _ => none }
def topCatchesRow : OpenClaim := { program := "ytgdcofbnbiclmaagreatdoor", sum := "29e1142288142ed57d0ebfe4034f5d764119579d8b9083a7f9066eacf5ad9615", func := "rostrum/rostrumtop.TopCatches", spec := "topCatches", inPlace := ["internal/bytealg.abigen_runtime_cmpstring", "slices.overlaps[rostrum/api.Pair]", "slices.overlaps[string]", "slices.overlaps[rostrum/api.Score]", "slices.overlaps[rostrum/api.Entry]"], unfollowed := true, recurses := true, named := ["rostrum/client.nothing"], apart := false, laid := [("rostrum/client.nothing", laid_rostrum_client_nothing)] }
def TopCatchesSaid : Prop := topCatchesRow.holds Tryz.pinned (OpenSpec.ofChange topCatchesSpec)

/-- ITS FALSE NEIGHBOUR: 'it returns false'. Refute it at one input. -/
def topCatchesWrong : ChangeSpec := { name := "topCatches", fn := fun _ => fun
  | [d1, d2] => { results := [.lit (.bool false)], args := [d1, d2] }
  | _ => none }
def TopCatchesWrongFalsely : Prop := topCatchesRow.holds Tryz.pinned (OpenSpec.ofChange topCatchesWrong)

/-- 'rostrumtop.TopTerms': WHATEVER THE INPUT: true; the input reads as it did. -/
def topTermsSpec : ChangeSpec := { name := "topTerms", fn := fun _ => fun
  | [d1, d2] => { results := [.lit (.bool true)], args := [d1, d2] }
  | _ => none }
def topTermsRow : OpenClaim := { program := "ytgdcofbnbiclmaagreatdoor", sum := "29e1142288142ed57d0ebfe4034f5d764119579d8b9083a7f9066eacf5ad9615", func := "rostrum/rostrumtop.TopTerms", spec := "topTerms", inPlace := ["internal/bytealg.abigen_runtime_cmpstring", "slices.overlaps[rostrum/api.Pair]", "slices.overlaps[string]", "slices.overlaps[rostrum/api.Score]", "slices.overlaps[rostrum/api.Entry]"], unfollowed := true, recurses := true, named := ["rostrum/client.nothing"], apart := false, laid := [("rostrum/client.nothing", laid_rostrum_client_nothing)] }
def TopTermsSaid : Prop := topTermsRow.holds Tryz.pinned (OpenSpec.ofChange topTermsSpec)

/-- ITS FALSE NEIGHBOUR: 'it returns false'. Refute it at one input. -/
def topTermsWrong : ChangeSpec := { name := "topTerms", fn := fun _ => fun
  | [d1, d2] => { results := [.lit (.bool false)], args := [d1, d2] }
  | _ => none }
def TopTermsWrongFalsely : Prop := topTermsRow.holds Tryz.pinned (OpenSpec.ofChange topTermsWrong)

/-- 'rostrumtop.TopTime': WHATEVER THE INPUT: true; the input reads as it did. -/
def topTimeSpec : ChangeSpec := { name := "topTime", fn := fun _ => fun
  | [d] => { results := [.lit (.bool true)], args := [d] }
  | _ => none }
def topTimeRow : OpenClaim := { program := "ytgdcofbnbiclmaagreatdoor", sum := "29e1142288142ed57d0ebfe4034f5d764119579d8b9083a7f9066eacf5ad9615", func := "rostrum/rostrumtop.TopTime", spec := "topTime", inPlace := ["internal/bytealg.abigen_runtime_cmpstring", "slices.overlaps[rostrum/api.Pair]", "slices.overlaps[string]", "slices.overlaps[rostrum/api.Score]", "slices.overlaps[rostrum/api.Entry]"], unfollowed := true, recurses := true, named := ["rostrum/client.nothing"], apart := false, laid := [("rostrum/client.nothing", laid_rostrum_client_nothing)] }
def TopTimeSaid : Prop := topTimeRow.holds Tryz.pinned (OpenSpec.ofChange topTimeSpec)

/-- ITS FALSE NEIGHBOUR: 'it returns false'. Refute it at one input. -/
def topTimeWrong : ChangeSpec := { name := "topTime", fn := fun _ => fun
  | [d] => { results := [.lit (.bool false)], args := [d] }
  | _ => none }
def TopTimeWrongFalsely : Prop := topTimeRow.holds Tryz.pinned (OpenSpec.ofChange topTimeWrong)

/-- 'rostrumtop.TopAlone': WHATEVER THE INPUT: true; the input reads as it did. -/
def topAloneSpec : ChangeSpec := { name := "topAlone", fn := fun _ => fun
  | [d1, d2] => { results := [.lit (.bool true)], args := [d1, d2] }
  | _ => none }
def topAloneRow : OpenClaim := { program := "ytgdcofbnbiclmaagreatdoor", sum := "29e1142288142ed57d0ebfe4034f5d764119579d8b9083a7f9066eacf5ad9615", func := "rostrum/rostrumtop.TopAlone", spec := "topAlone", inPlace := ["internal/bytealg.abigen_runtime_cmpstring", "slices.overlaps[rostrum/api.Pair]", "slices.overlaps[string]", "slices.overlaps[rostrum/api.Score]", "slices.overlaps[rostrum/api.Entry]"], unfollowed := true, recurses := true, named := ["rostrum/client.nothing"], apart := false, laid := [("rostrum/client.nothing", laid_rostrum_client_nothing)] }
def TopAloneSaid : Prop := topAloneRow.holds Tryz.pinned (OpenSpec.ofChange topAloneSpec)

/-- ITS FALSE NEIGHBOUR: 'it returns false'. Refute it at one input. -/
def topAloneWrong : ChangeSpec := { name := "topAlone", fn := fun _ => fun
  | [d1, d2] => { results := [.lit (.bool false)], args := [d1, d2] }
  | _ => none }
def TopAloneWrongFalsely : Prop := topAloneRow.holds Tryz.pinned (OpenSpec.ofChange topAloneWrong)

/-- 'rostrumtop.TopRefused': WHATEVER THE INPUT: true; the input reads as it did. -/
def topRefusedSpec : ChangeSpec := { name := "topRefused", fn := fun _ => fun
  | [d1, d2] => { results := [.lit (.bool true)], args := [d1, d2] }
  | _ => none }
def topRefusedRow : OpenClaim := { program := "ytgdcofbnbiclmaagreatdoor", sum := "29e1142288142ed57d0ebfe4034f5d764119579d8b9083a7f9066eacf5ad9615", func := "rostrum/rostrumtop.TopRefused", spec := "topRefused", inPlace := ["internal/bytealg.abigen_runtime_cmpstring", "slices.overlaps[rostrum/api.Pair]", "slices.overlaps[string]", "slices.overlaps[rostrum/api.Score]", "slices.overlaps[rostrum/api.Entry]"], unfollowed := true, recurses := true, named := ["rostrum/client.nothing"], apart := false, laid := [("rostrum/client.nothing", laid_rostrum_client_nothing)] }
def TopRefusedSaid : Prop := topRefusedRow.holds Tryz.pinned (OpenSpec.ofChange topRefusedSpec)

/-- ITS FALSE NEIGHBOUR: 'it returns false'. Refute it at one input. -/
def topRefusedWrong : ChangeSpec := { name := "topRefused", fn := fun _ => fun
  | [d1, d2] => { results := [.lit (.bool false)], args := [d1, d2] }
  | _ => none }
def TopRefusedWrongFalsely : Prop := topRefusedRow.holds Tryz.pinned (OpenSpec.ofChange topRefusedWrong)

/-- 'rostrumtop.TopNop': WHATEVER THE INPUT: true; the input reads as it did. -/
def topNopSpec : ChangeSpec := { name := "topNop", fn := fun _ => fun
  | [d] => { results := [.lit (.bool true)], args := [d] }
  | _ => none }
def topNopRow : OpenClaim := { program := "ytgdcofbnbiclmaagreatdoor", sum := "29e1142288142ed57d0ebfe4034f5d764119579d8b9083a7f9066eacf5ad9615", func := "rostrum/rostrumtop.TopNop", spec := "topNop", inPlace := ["internal/bytealg.abigen_runtime_cmpstring", "slices.overlaps[rostrum/api.Pair]", "slices.overlaps[string]", "slices.overlaps[rostrum/api.Score]", "slices.overlaps[rostrum/api.Entry]"], unfollowed := true, recurses := true, named := ["rostrum/client.nothing"], apart := false, laid := [("rostrum/client.nothing", laid_rostrum_client_nothing)] }
def TopNopSaid : Prop := topNopRow.holds Tryz.pinned (OpenSpec.ofChange topNopSpec)

/-- ITS FALSE NEIGHBOUR: 'it returns false'. Refute it at one input. -/
def topNopWrong : ChangeSpec := { name := "topNop", fn := fun _ => fun
  | [d] => { results := [.lit (.bool false)], args := [d] }
  | _ => none }
def TopNopWrongFalsely : Prop := topNopRow.holds Tryz.pinned (OpenSpec.ofChange topNopWrong)

/-- 'rostrumtop.TopMinor': WHATEVER THE INPUT: true; the input reads as it did. -/
def topMinorSpec : ChangeSpec := { name := "topMinor", fn := fun _ => fun
  | [d1, d2] => { results := [.lit (.bool true)], args := [d1, d2] }
  | _ => none }
def topMinorRow : OpenClaim := { program := "ytgdcofbnbiclmaagreatdoor", sum := "29e1142288142ed57d0ebfe4034f5d764119579d8b9083a7f9066eacf5ad9615", func := "rostrum/rostrumtop.TopMinor", spec := "topMinor", inPlace := ["internal/bytealg.abigen_runtime_cmpstring", "slices.overlaps[rostrum/api.Pair]", "slices.overlaps[string]", "slices.overlaps[rostrum/api.Score]", "slices.overlaps[rostrum/api.Entry]"], unfollowed := true, recurses := true, named := ["rostrum/client.nothing"], apart := false, laid := [("rostrum/client.nothing", laid_rostrum_client_nothing)] }
def TopMinorSaid : Prop := topMinorRow.holds Tryz.pinned (OpenSpec.ofChange topMinorSpec)

/-- ITS FALSE NEIGHBOUR: 'it returns false'. Refute it at one input. -/
def topMinorWrong : ChangeSpec := { name := "topMinor", fn := fun _ => fun
  | [d1, d2] => { results := [.lit (.bool false)], args := [d1, d2] }
  | _ => none }
def TopMinorWrongFalsely : Prop := topMinorRow.holds Tryz.pinned (OpenSpec.ofChange topMinorWrong)

/-- 'rostrumtop.TopTold': WHATEVER THE INPUT: true; the input reads as it did. -/
def topToldSpec : ChangeSpec := { name := "topTold", fn := fun _ => fun
  | [d] => { results := [.lit (.bool true)], args := [d] }
  | _ => none }
def topToldRow : OpenClaim := { program := "ytgdcofbnbiclmaagreatdoor", sum := "29e1142288142ed57d0ebfe4034f5d764119579d8b9083a7f9066eacf5ad9615", func := "rostrum/rostrumtop.TopTold", spec := "topTold", inPlace := ["internal/bytealg.abigen_runtime_cmpstring", "slices.overlaps[rostrum/api.Pair]", "slices.overlaps[string]", "slices.overlaps[rostrum/api.Score]", "slices.overlaps[rostrum/api.Entry]"], unfollowed := true, recurses := true, named := ["rostrum/client.nothing"], apart := false, laid := [("rostrum/client.nothing", laid_rostrum_client_nothing)] }
def TopToldSaid : Prop := topToldRow.holds Tryz.pinned (OpenSpec.ofChange topToldSpec)

/-- ITS FALSE NEIGHBOUR: 'it returns false'. Refute it at one input. -/
def topToldWrong : ChangeSpec := { name := "topTold", fn := fun _ => fun
  | [d] => { results := [.lit (.bool false)], args := [d] }
  | _ => none }
def TopToldWrongFalsely : Prop := topToldRow.holds Tryz.pinned (OpenSpec.ofChange topToldWrong)

/-- 'rostrumtop.TopCounter': WHATEVER THE INPUT: true; the input reads as it did. -/
def topCounterSpec : ChangeSpec := { name := "topCounter", fn := fun _ => fun
  | [d1, d2, d3] => { results := [.lit (.bool true)], args := [d1, d2, d3] }
  | _ => none }
def topCounterRow : OpenClaim := { program := "ytgdcofbnbiclmaagreatdoor", sum := "29e1142288142ed57d0ebfe4034f5d764119579d8b9083a7f9066eacf5ad9615", func := "rostrum/rostrumtop.TopCounter", spec := "topCounter", inPlace := ["internal/bytealg.abigen_runtime_cmpstring", "slices.overlaps[rostrum/api.Pair]", "slices.overlaps[string]", "slices.overlaps[rostrum/api.Score]", "slices.overlaps[rostrum/api.Entry]"], unfollowed := true, recurses := true, named := ["rostrum/client.nothing"], apart := false, laid := [("rostrum/client.nothing", laid_rostrum_client_nothing)] }
def TopCounterSaid : Prop := topCounterRow.holds Tryz.pinned (OpenSpec.ofChange topCounterSpec)

/-- ITS FALSE NEIGHBOUR: 'it returns false'. Refute it at one input. -/
def topCounterWrong : ChangeSpec := { name := "topCounter", fn := fun _ => fun
  | [d1, d2, d3] => { results := [.lit (.bool false)], args := [d1, d2, d3] }
  | _ => none }
def TopCounterWrongFalsely : Prop := topCounterRow.holds Tryz.pinned (OpenSpec.ofChange topCounterWrong)

/-- 'rostrumtop.TopRead': WHATEVER THE INPUT: true; the input reads as it did. -/
def topReadSpec : ChangeSpec := { name := "topRead", fn := fun _ => fun
  | [d1, d2] => { results := [.lit (.bool true)], args := [d1, d2] }
  | _ => none }
def topReadRow : OpenClaim := { program := "ytgdcofbnbiclmaagreatdoor", sum := "29e1142288142ed57d0ebfe4034f5d764119579d8b9083a7f9066eacf5ad9615", func := "rostrum/rostrumtop.TopRead", spec := "topRead", inPlace := ["internal/bytealg.abigen_runtime_cmpstring", "slices.overlaps[rostrum/api.Pair]", "slices.overlaps[string]", "slices.overlaps[rostrum/api.Score]", "slices.overlaps[rostrum/api.Entry]"], unfollowed := true, recurses := true, named := ["rostrum/client.nothing"], apart := false, laid := [("rostrum/client.nothing", laid_rostrum_client_nothing)] }
def TopReadSaid : Prop := topReadRow.holds Tryz.pinned (OpenSpec.ofChange topReadSpec)

/-- ITS FALSE NEIGHBOUR: 'it returns false'. Refute it at one input. -/
def topReadWrong : ChangeSpec := { name := "topRead", fn := fun _ => fun
  | [d1, d2] => { results := [.lit (.bool false)], args := [d1, d2] }
  | _ => none }
def TopReadWrongFalsely : Prop := topReadRow.holds Tryz.pinned (OpenSpec.ofChange topReadWrong)

/-- 'rostrumtop.TopTicks': WHATEVER THE INPUT: true; the input reads as it did. -/
def topTicksSpec : ChangeSpec := { name := "topTicks", fn := fun _ => fun
  | [d1, d2] => { results := [.lit (.bool true)], args := [d1, d2] }
  | _ => none }
def topTicksRow : OpenClaim := { program := "ytgdcofbnbiclmaagreatdoor", sum := "29e1142288142ed57d0ebfe4034f5d764119579d8b9083a7f9066eacf5ad9615", func := "rostrum/rostrumtop.TopTicks", spec := "topTicks", inPlace := ["internal/bytealg.abigen_runtime_cmpstring", "slices.overlaps[rostrum/api.Pair]", "slices.overlaps[string]", "slices.overlaps[rostrum/api.Score]", "slices.overlaps[rostrum/api.Entry]"], unfollowed := true, recurses := true, named := ["rostrum/client.nothing"], apart := false, laid := [("rostrum/client.nothing", laid_rostrum_client_nothing)] }
def TopTicksSaid : Prop := topTicksRow.holds Tryz.pinned (OpenSpec.ofChange topTicksSpec)

/-- ITS FALSE NEIGHBOUR: 'it returns false'. Refute it at one input. -/
def topTicksWrong : ChangeSpec := { name := "topTicks", fn := fun _ => fun
  | [d1, d2] => { results := [.lit (.bool false)], args := [d1, d2] }
  | _ => none }
def TopTicksWrongFalsely : Prop := topTicksRow.holds Tryz.pinned (OpenSpec.ofChange topTicksWrong)

/-- 'rostrumtop.TopStart': WHATEVER THE INPUT: true; the input reads as it did. -/
def topStartSpec : ChangeSpec := { name := "topStart", fn := fun _ => fun
  | [d] => { results := [.lit (.bool true)], args := [d] }
  | _ => none }
def topStartRow : OpenClaim := { program := "ytgdcofbnbiclmaagreatdoor", sum := "29e1142288142ed57d0ebfe4034f5d764119579d8b9083a7f9066eacf5ad9615", func := "rostrum/rostrumtop.TopStart", spec := "topStart", inPlace := ["internal/bytealg.abigen_runtime_cmpstring", "slices.overlaps[rostrum/api.Pair]", "slices.overlaps[string]", "slices.overlaps[rostrum/api.Score]", "slices.overlaps[rostrum/api.Entry]"], unfollowed := true, recurses := true, named := ["rostrum/client.nothing"], apart := false, laid := [("rostrum/client.nothing", laid_rostrum_client_nothing)] }
def TopStartSaid : Prop := topStartRow.holds Tryz.pinned (OpenSpec.ofChange topStartSpec)

/-- ITS FALSE NEIGHBOUR: 'it returns false'. Refute it at one input. -/
def topStartWrong : ChangeSpec := { name := "topStart", fn := fun _ => fun
  | [d] => { results := [.lit (.bool false)], args := [d] }
  | _ => none }
def TopStartWrongFalsely : Prop := topStartRow.holds Tryz.pinned (OpenSpec.ofChange topStartWrong)

/-- 'rostrumtop.TopLeadersAny': WHATEVER THE INPUT: true; the input reads as it did. -/
def topLeadersAnySpec : ChangeSpec := { name := "topLeadersAny", fn := fun _ => fun
  | [d] => { results := [.lit (.bool true)], args := [d] }
  | _ => none }
def topLeadersAnyRow : OpenClaim := { program := "ytgdcofbnbiclmaagreatdoor", sum := "29e1142288142ed57d0ebfe4034f5d764119579d8b9083a7f9066eacf5ad9615", func := "rostrum/rostrumtop.TopLeadersAny", spec := "topLeadersAny", inPlace := ["internal/bytealg.abigen_runtime_cmpstring", "slices.overlaps[rostrum/api.Pair]", "slices.overlaps[string]", "slices.overlaps[rostrum/api.Score]", "slices.overlaps[rostrum/api.Entry]"], unfollowed := true, recurses := true, named := ["rostrum/client.nothing"], apart := false, laid := [("rostrum/client.nothing", laid_rostrum_client_nothing)] }
def TopLeadersAnySaid : Prop := topLeadersAnyRow.holds Tryz.pinned (OpenSpec.ofChange topLeadersAnySpec)

/-- ITS FALSE NEIGHBOUR: 'it returns false'. Refute it at one input. -/
def topLeadersAnyWrong : ChangeSpec := { name := "topLeadersAny", fn := fun _ => fun
  | [d] => { results := [.lit (.bool false)], args := [d] }
  | _ => none }
def TopLeadersAnyWrongFalsely : Prop := topLeadersAnyRow.holds Tryz.pinned (OpenSpec.ofChange topLeadersAnyWrong)

/-- 'rostrumtop.TopLogsAny': WHATEVER THE INPUT: true; the input reads as it did. -/
def topLogsAnySpec : ChangeSpec := { name := "topLogsAny", fn := fun _ => fun
  | [d] => { results := [.lit (.bool true)], args := [d] }
  | _ => none }
def topLogsAnyRow : OpenClaim := { program := "ytgdcofbnbiclmaagreatdoor", sum := "29e1142288142ed57d0ebfe4034f5d764119579d8b9083a7f9066eacf5ad9615", func := "rostrum/rostrumtop.TopLogsAny", spec := "topLogsAny", inPlace := ["internal/bytealg.abigen_runtime_cmpstring", "slices.overlaps[rostrum/api.Pair]", "slices.overlaps[string]", "slices.overlaps[rostrum/api.Score]", "slices.overlaps[rostrum/api.Entry]"], unfollowed := true, recurses := true, named := ["rostrum/client.nothing"], apart := false, laid := [("rostrum/client.nothing", laid_rostrum_client_nothing)] }
def TopLogsAnySaid : Prop := topLogsAnyRow.holds Tryz.pinned (OpenSpec.ofChange topLogsAnySpec)

/-- ITS FALSE NEIGHBOUR: 'it returns false'. Refute it at one input. -/
def topLogsAnyWrong : ChangeSpec := { name := "topLogsAny", fn := fun _ => fun
  | [d] => { results := [.lit (.bool false)], args := [d] }
  | _ => none }
def TopLogsAnyWrongFalsely : Prop := topLogsAnyRow.holds Tryz.pinned (OpenSpec.ofChange topLogsAnyWrong)

/-- 'rostrumtop.TopDoneAny': WHATEVER THE INPUT: true; the input reads as it did. -/
def topDoneAnySpec : ChangeSpec := { name := "topDoneAny", fn := fun _ => fun
  | [d] => { results := [.lit (.bool true)], args := [d] }
  | _ => none }
def topDoneAnyRow : OpenClaim := { program := "ytgdcofbnbiclmaagreatdoor", sum := "29e1142288142ed57d0ebfe4034f5d764119579d8b9083a7f9066eacf5ad9615", func := "rostrum/rostrumtop.TopDoneAny", spec := "topDoneAny", inPlace := ["internal/bytealg.abigen_runtime_cmpstring", "slices.overlaps[rostrum/api.Pair]", "slices.overlaps[string]", "slices.overlaps[rostrum/api.Score]", "slices.overlaps[rostrum/api.Entry]"], unfollowed := true, recurses := true, named := ["rostrum/client.nothing"], apart := false, laid := [("rostrum/client.nothing", laid_rostrum_client_nothing)] }
def TopDoneAnySaid : Prop := topDoneAnyRow.holds Tryz.pinned (OpenSpec.ofChange topDoneAnySpec)

/-- ITS FALSE NEIGHBOUR: 'it returns false'. Refute it at one input. -/
def topDoneAnyWrong : ChangeSpec := { name := "topDoneAny", fn := fun _ => fun
  | [d] => { results := [.lit (.bool false)], args := [d] }
  | _ => none }
def TopDoneAnyWrongFalsely : Prop := topDoneAnyRow.holds Tryz.pinned (OpenSpec.ofChange topDoneAnyWrong)

/-- 'rostrumtop.TopReplayAny': WHATEVER THE INPUT: true; the input reads as it did. -/
def topReplayAnySpec : ChangeSpec := { name := "topReplayAny", fn := fun _ => fun
  | [d] => { results := [.lit (.bool true)], args := [d] }
  | _ => none }
def topReplayAnyRow : OpenClaim := { program := "ytgdcofbnbiclmaagreatdoor", sum := "29e1142288142ed57d0ebfe4034f5d764119579d8b9083a7f9066eacf5ad9615", func := "rostrum/rostrumtop.TopReplayAny", spec := "topReplayAny", inPlace := ["internal/bytealg.abigen_runtime_cmpstring", "slices.overlaps[rostrum/api.Pair]", "slices.overlaps[string]", "slices.overlaps[rostrum/api.Score]", "slices.overlaps[rostrum/api.Entry]"], unfollowed := true, recurses := true, named := ["rostrum/client.nothing"], apart := false, laid := [("rostrum/client.nothing", laid_rostrum_client_nothing)] }
def TopReplayAnySaid : Prop := topReplayAnyRow.holds Tryz.pinned (OpenSpec.ofChange topReplayAnySpec)

/-- ITS FALSE NEIGHBOUR: 'it returns false'. Refute it at one input. -/
def topReplayAnyWrong : ChangeSpec := { name := "topReplayAny", fn := fun _ => fun
  | [d] => { results := [.lit (.bool false)], args := [d] }
  | _ => none }
def TopReplayAnyWrongFalsely : Prop := topReplayAnyRow.holds Tryz.pinned (OpenSpec.ofChange topReplayAnyWrong)

/-- 'rostrumtop.TopKeptAny': WHATEVER THE INPUT: true; the input reads as it did. -/
def topKeptAnySpec : ChangeSpec := { name := "topKeptAny", fn := fun _ => fun
  | [d1, d2] => { results := [.lit (.bool true)], args := [d1, d2] }
  | _ => none }
def topKeptAnyRow : OpenClaim := { program := "ytgdcofbnbiclmaagreatdoor", sum := "29e1142288142ed57d0ebfe4034f5d764119579d8b9083a7f9066eacf5ad9615", func := "rostrum/rostrumtop.TopKeptAny", spec := "topKeptAny", inPlace := ["internal/bytealg.abigen_runtime_cmpstring", "slices.overlaps[rostrum/api.Pair]", "slices.overlaps[string]", "slices.overlaps[rostrum/api.Score]", "slices.overlaps[rostrum/api.Entry]"], unfollowed := true, recurses := true, named := ["rostrum/client.nothing"], apart := false, laid := [("rostrum/client.nothing", laid_rostrum_client_nothing)] }
def TopKeptAnySaid : Prop := topKeptAnyRow.holds Tryz.pinned (OpenSpec.ofChange topKeptAnySpec)

/-- ITS FALSE NEIGHBOUR: 'it returns false'. Refute it at one input. -/
def topKeptAnyWrong : ChangeSpec := { name := "topKeptAny", fn := fun _ => fun
  | [d1, d2] => { results := [.lit (.bool false)], args := [d1, d2] }
  | _ => none }
def TopKeptAnyWrongFalsely : Prop := topKeptAnyRow.holds Tryz.pinned (OpenSpec.ofChange topKeptAnyWrong)

/- THE SECOND FORM. 'bulk': how many values and letters a reading holds, each counted each time it is reached (what is shared counts as often as it is met; a slice's spare places count too). A statement '..UptoSaid' is the law's where the arguments, and the package variables that the reading takes, are together of bulk at most 1048576: NARROWER than '..Said'. Prove '..Said' where nothing that the law and all that it calls make is longer than what came in: it says more and counts as full. Else prove '..UptoSaid'. A law counts once. -/
mutual
def uptoBulk {H : Type} : DataW H → Nat
  | .lit (.string bytes) => bytes.length + 1
  | .lit _ => 1
  | .nil => 1
  | .ptr d => uptoBulk d + 1
  | .slice elems spare => uptoBulkAll elems + uptoBulkAll spare + 1
  | .agg parts => uptoBulkAll parts + 1
  | .iface _ d => uptoBulk d + 1
  | .map entries => uptoBulkEntries entries + 1
  | .held _ => 1
def uptoBulkAll {H : Type} : List (DataW H) → Nat
  | [] => 0
  | d :: r => uptoBulk d + uptoBulkAll r
def uptoBulkEntries {H : Type} : List (Lit × DataW H) → Nat
  | [] => 0
  | x :: r => uptoBulkEntry x + uptoBulkEntries r
def uptoBulkEntry {H : Type} : Lit × DataW H → Nat
  | (.string bytes, d) => bytes.length + uptoBulk d + 1
  | (_, d) => uptoBulk d + 1
 end
def uptoSmall : (H : Type) → List (DataW H) → Bool := fun _ ds => decide (uptoBulkAll ds ≤ 1048576)
def OpenSpec.upto (s : _root_.Go.ChangeSpec) : _root_.Go.OpenSpec := { _root_.Go.OpenSpec.ofChange s with cond := some uptoSmall }

/-- 'rostrumtop.TopTrim', WHERE WHAT IT READS IS OF BULK AT MOST 1048576: true; the input reads as it did. -/
def topTrimUptoRow : OpenClaim := { program := "ytgdcofbnbiclmaagreatdoor", sum := "29e1142288142ed57d0ebfe4034f5d764119579d8b9083a7f9066eacf5ad9615", func := "rostrum/rostrumtop.TopTrim", spec := "topTrim", inPlace := ["internal/bytealg.abigen_runtime_cmpstring", "slices.overlaps[rostrum/api.Pair]", "slices.overlaps[string]", "slices.overlaps[rostrum/api.Score]", "slices.overlaps[rostrum/api.Entry]"], unfollowed := true, recurses := true, named := ["rostrum/client.nothing"], apart := false, laid := [("rostrum/client.nothing", laid_rostrum_client_nothing)], narrowed := true }
def TopTrimUptoSaid : Prop := topTrimUptoRow.holds Tryz.pinned (OpenSpec.upto topTrimSpec)

/-- 'rostrumtop.TopCatches', WHERE WHAT IT READS IS OF BULK AT MOST 1048576: true; the input reads as it did. -/
def topCatchesUptoRow : OpenClaim := { program := "ytgdcofbnbiclmaagreatdoor", sum := "29e1142288142ed57d0ebfe4034f5d764119579d8b9083a7f9066eacf5ad9615", func := "rostrum/rostrumtop.TopCatches", spec := "topCatches", inPlace := ["internal/bytealg.abigen_runtime_cmpstring", "slices.overlaps[rostrum/api.Pair]", "slices.overlaps[string]", "slices.overlaps[rostrum/api.Score]", "slices.overlaps[rostrum/api.Entry]"], unfollowed := true, recurses := true, named := ["rostrum/client.nothing"], apart := false, laid := [("rostrum/client.nothing", laid_rostrum_client_nothing)], narrowed := true }
def TopCatchesUptoSaid : Prop := topCatchesUptoRow.holds Tryz.pinned (OpenSpec.upto topCatchesSpec)

/-- 'rostrumtop.TopTerms', WHERE WHAT IT READS IS OF BULK AT MOST 1048576: true; the input reads as it did. -/
def topTermsUptoRow : OpenClaim := { program := "ytgdcofbnbiclmaagreatdoor", sum := "29e1142288142ed57d0ebfe4034f5d764119579d8b9083a7f9066eacf5ad9615", func := "rostrum/rostrumtop.TopTerms", spec := "topTerms", inPlace := ["internal/bytealg.abigen_runtime_cmpstring", "slices.overlaps[rostrum/api.Pair]", "slices.overlaps[string]", "slices.overlaps[rostrum/api.Score]", "slices.overlaps[rostrum/api.Entry]"], unfollowed := true, recurses := true, named := ["rostrum/client.nothing"], apart := false, laid := [("rostrum/client.nothing", laid_rostrum_client_nothing)], narrowed := true }
def TopTermsUptoSaid : Prop := topTermsUptoRow.holds Tryz.pinned (OpenSpec.upto topTermsSpec)

/-- 'rostrumtop.TopTime', WHERE WHAT IT READS IS OF BULK AT MOST 1048576: true; the input reads as it did. -/
def topTimeUptoRow : OpenClaim := { program := "ytgdcofbnbiclmaagreatdoor", sum := "29e1142288142ed57d0ebfe4034f5d764119579d8b9083a7f9066eacf5ad9615", func := "rostrum/rostrumtop.TopTime", spec := "topTime", inPlace := ["internal/bytealg.abigen_runtime_cmpstring", "slices.overlaps[rostrum/api.Pair]", "slices.overlaps[string]", "slices.overlaps[rostrum/api.Score]", "slices.overlaps[rostrum/api.Entry]"], unfollowed := true, recurses := true, named := ["rostrum/client.nothing"], apart := false, laid := [("rostrum/client.nothing", laid_rostrum_client_nothing)], narrowed := true }
def TopTimeUptoSaid : Prop := topTimeUptoRow.holds Tryz.pinned (OpenSpec.upto topTimeSpec)

/-- 'rostrumtop.TopAlone', WHERE WHAT IT READS IS OF BULK AT MOST 1048576: true; the input reads as it did. -/
def topAloneUptoRow : OpenClaim := { program := "ytgdcofbnbiclmaagreatdoor", sum := "29e1142288142ed57d0ebfe4034f5d764119579d8b9083a7f9066eacf5ad9615", func := "rostrum/rostrumtop.TopAlone", spec := "topAlone", inPlace := ["internal/bytealg.abigen_runtime_cmpstring", "slices.overlaps[rostrum/api.Pair]", "slices.overlaps[string]", "slices.overlaps[rostrum/api.Score]", "slices.overlaps[rostrum/api.Entry]"], unfollowed := true, recurses := true, named := ["rostrum/client.nothing"], apart := false, laid := [("rostrum/client.nothing", laid_rostrum_client_nothing)], narrowed := true }
def TopAloneUptoSaid : Prop := topAloneUptoRow.holds Tryz.pinned (OpenSpec.upto topAloneSpec)

/-- 'rostrumtop.TopRefused', WHERE WHAT IT READS IS OF BULK AT MOST 1048576: true; the input reads as it did. -/
def topRefusedUptoRow : OpenClaim := { program := "ytgdcofbnbiclmaagreatdoor", sum := "29e1142288142ed57d0ebfe4034f5d764119579d8b9083a7f9066eacf5ad9615", func := "rostrum/rostrumtop.TopRefused", spec := "topRefused", inPlace := ["internal/bytealg.abigen_runtime_cmpstring", "slices.overlaps[rostrum/api.Pair]", "slices.overlaps[string]", "slices.overlaps[rostrum/api.Score]", "slices.overlaps[rostrum/api.Entry]"], unfollowed := true, recurses := true, named := ["rostrum/client.nothing"], apart := false, laid := [("rostrum/client.nothing", laid_rostrum_client_nothing)], narrowed := true }
def TopRefusedUptoSaid : Prop := topRefusedUptoRow.holds Tryz.pinned (OpenSpec.upto topRefusedSpec)

/-- 'rostrumtop.TopNop', WHERE WHAT IT READS IS OF BULK AT MOST 1048576: true; the input reads as it did. -/
def topNopUptoRow : OpenClaim := { program := "ytgdcofbnbiclmaagreatdoor", sum := "29e1142288142ed57d0ebfe4034f5d764119579d8b9083a7f9066eacf5ad9615", func := "rostrum/rostrumtop.TopNop", spec := "topNop", inPlace := ["internal/bytealg.abigen_runtime_cmpstring", "slices.overlaps[rostrum/api.Pair]", "slices.overlaps[string]", "slices.overlaps[rostrum/api.Score]", "slices.overlaps[rostrum/api.Entry]"], unfollowed := true, recurses := true, named := ["rostrum/client.nothing"], apart := false, laid := [("rostrum/client.nothing", laid_rostrum_client_nothing)], narrowed := true }
def TopNopUptoSaid : Prop := topNopUptoRow.holds Tryz.pinned (OpenSpec.upto topNopSpec)

/-- 'rostrumtop.TopMinor', WHERE WHAT IT READS IS OF BULK AT MOST 1048576: true; the input reads as it did. -/
def topMinorUptoRow : OpenClaim := { program := "ytgdcofbnbiclmaagreatdoor", sum := "29e1142288142ed57d0ebfe4034f5d764119579d8b9083a7f9066eacf5ad9615", func := "rostrum/rostrumtop.TopMinor", spec := "topMinor", inPlace := ["internal/bytealg.abigen_runtime_cmpstring", "slices.overlaps[rostrum/api.Pair]", "slices.overlaps[string]", "slices.overlaps[rostrum/api.Score]", "slices.overlaps[rostrum/api.Entry]"], unfollowed := true, recurses := true, named := ["rostrum/client.nothing"], apart := false, laid := [("rostrum/client.nothing", laid_rostrum_client_nothing)], narrowed := true }
def TopMinorUptoSaid : Prop := topMinorUptoRow.holds Tryz.pinned (OpenSpec.upto topMinorSpec)

/-- 'rostrumtop.TopTold', WHERE WHAT IT READS IS OF BULK AT MOST 1048576: true; the input reads as it did. -/
def topToldUptoRow : OpenClaim := { program := "ytgdcofbnbiclmaagreatdoor", sum := "29e1142288142ed57d0ebfe4034f5d764119579d8b9083a7f9066eacf5ad9615", func := "rostrum/rostrumtop.TopTold", spec := "topTold", inPlace := ["internal/bytealg.abigen_runtime_cmpstring", "slices.overlaps[rostrum/api.Pair]", "slices.overlaps[string]", "slices.overlaps[rostrum/api.Score]", "slices.overlaps[rostrum/api.Entry]"], unfollowed := true, recurses := true, named := ["rostrum/client.nothing"], apart := false, laid := [("rostrum/client.nothing", laid_rostrum_client_nothing)], narrowed := true }
def TopToldUptoSaid : Prop := topToldUptoRow.holds Tryz.pinned (OpenSpec.upto topToldSpec)

/-- 'rostrumtop.TopCounter', WHERE WHAT IT READS IS OF BULK AT MOST 1048576: true; the input reads as it did. -/
def topCounterUptoRow : OpenClaim := { program := "ytgdcofbnbiclmaagreatdoor", sum := "29e1142288142ed57d0ebfe4034f5d764119579d8b9083a7f9066eacf5ad9615", func := "rostrum/rostrumtop.TopCounter", spec := "topCounter", inPlace := ["internal/bytealg.abigen_runtime_cmpstring", "slices.overlaps[rostrum/api.Pair]", "slices.overlaps[string]", "slices.overlaps[rostrum/api.Score]", "slices.overlaps[rostrum/api.Entry]"], unfollowed := true, recurses := true, named := ["rostrum/client.nothing"], apart := false, laid := [("rostrum/client.nothing", laid_rostrum_client_nothing)], narrowed := true }
def TopCounterUptoSaid : Prop := topCounterUptoRow.holds Tryz.pinned (OpenSpec.upto topCounterSpec)

/-- 'rostrumtop.TopRead', WHERE WHAT IT READS IS OF BULK AT MOST 1048576: true; the input reads as it did. -/
def topReadUptoRow : OpenClaim := { program := "ytgdcofbnbiclmaagreatdoor", sum := "29e1142288142ed57d0ebfe4034f5d764119579d8b9083a7f9066eacf5ad9615", func := "rostrum/rostrumtop.TopRead", spec := "topRead", inPlace := ["internal/bytealg.abigen_runtime_cmpstring", "slices.overlaps[rostrum/api.Pair]", "slices.overlaps[string]", "slices.overlaps[rostrum/api.Score]", "slices.overlaps[rostrum/api.Entry]"], unfollowed := true, recurses := true, named := ["rostrum/client.nothing"], apart := false, laid := [("rostrum/client.nothing", laid_rostrum_client_nothing)], narrowed := true }
def TopReadUptoSaid : Prop := topReadUptoRow.holds Tryz.pinned (OpenSpec.upto topReadSpec)

/-- 'rostrumtop.TopTicks', WHERE WHAT IT READS IS OF BULK AT MOST 1048576: true; the input reads as it did. -/
def topTicksUptoRow : OpenClaim := { program := "ytgdcofbnbiclmaagreatdoor", sum := "29e1142288142ed57d0ebfe4034f5d764119579d8b9083a7f9066eacf5ad9615", func := "rostrum/rostrumtop.TopTicks", spec := "topTicks", inPlace := ["internal/bytealg.abigen_runtime_cmpstring", "slices.overlaps[rostrum/api.Pair]", "slices.overlaps[string]", "slices.overlaps[rostrum/api.Score]", "slices.overlaps[rostrum/api.Entry]"], unfollowed := true, recurses := true, named := ["rostrum/client.nothing"], apart := false, laid := [("rostrum/client.nothing", laid_rostrum_client_nothing)], narrowed := true }
def TopTicksUptoSaid : Prop := topTicksUptoRow.holds Tryz.pinned (OpenSpec.upto topTicksSpec)

/-- 'rostrumtop.TopStart', WHERE WHAT IT READS IS OF BULK AT MOST 1048576: true; the input reads as it did. -/
def topStartUptoRow : OpenClaim := { program := "ytgdcofbnbiclmaagreatdoor", sum := "29e1142288142ed57d0ebfe4034f5d764119579d8b9083a7f9066eacf5ad9615", func := "rostrum/rostrumtop.TopStart", spec := "topStart", inPlace := ["internal/bytealg.abigen_runtime_cmpstring", "slices.overlaps[rostrum/api.Pair]", "slices.overlaps[string]", "slices.overlaps[rostrum/api.Score]", "slices.overlaps[rostrum/api.Entry]"], unfollowed := true, recurses := true, named := ["rostrum/client.nothing"], apart := false, laid := [("rostrum/client.nothing", laid_rostrum_client_nothing)], narrowed := true }
def TopStartUptoSaid : Prop := topStartUptoRow.holds Tryz.pinned (OpenSpec.upto topStartSpec)

/-- 'rostrumtop.TopLeadersAny', WHERE WHAT IT READS IS OF BULK AT MOST 1048576: true; the input reads as it did. -/
def topLeadersAnyUptoRow : OpenClaim := { program := "ytgdcofbnbiclmaagreatdoor", sum := "29e1142288142ed57d0ebfe4034f5d764119579d8b9083a7f9066eacf5ad9615", func := "rostrum/rostrumtop.TopLeadersAny", spec := "topLeadersAny", inPlace := ["internal/bytealg.abigen_runtime_cmpstring", "slices.overlaps[rostrum/api.Pair]", "slices.overlaps[string]", "slices.overlaps[rostrum/api.Score]", "slices.overlaps[rostrum/api.Entry]"], unfollowed := true, recurses := true, named := ["rostrum/client.nothing"], apart := false, laid := [("rostrum/client.nothing", laid_rostrum_client_nothing)], narrowed := true }
def TopLeadersAnyUptoSaid : Prop := topLeadersAnyUptoRow.holds Tryz.pinned (OpenSpec.upto topLeadersAnySpec)

/-- 'rostrumtop.TopLogsAny', WHERE WHAT IT READS IS OF BULK AT MOST 1048576: true; the input reads as it did. -/
def topLogsAnyUptoRow : OpenClaim := { program := "ytgdcofbnbiclmaagreatdoor", sum := "29e1142288142ed57d0ebfe4034f5d764119579d8b9083a7f9066eacf5ad9615", func := "rostrum/rostrumtop.TopLogsAny", spec := "topLogsAny", inPlace := ["internal/bytealg.abigen_runtime_cmpstring", "slices.overlaps[rostrum/api.Pair]", "slices.overlaps[string]", "slices.overlaps[rostrum/api.Score]", "slices.overlaps[rostrum/api.Entry]"], unfollowed := true, recurses := true, named := ["rostrum/client.nothing"], apart := false, laid := [("rostrum/client.nothing", laid_rostrum_client_nothing)], narrowed := true }
def TopLogsAnyUptoSaid : Prop := topLogsAnyUptoRow.holds Tryz.pinned (OpenSpec.upto topLogsAnySpec)

/-- 'rostrumtop.TopDoneAny', WHERE WHAT IT READS IS OF BULK AT MOST 1048576: true; the input reads as it did. -/
def topDoneAnyUptoRow : OpenClaim := { program := "ytgdcofbnbiclmaagreatdoor", sum := "29e1142288142ed57d0ebfe4034f5d764119579d8b9083a7f9066eacf5ad9615", func := "rostrum/rostrumtop.TopDoneAny", spec := "topDoneAny", inPlace := ["internal/bytealg.abigen_runtime_cmpstring", "slices.overlaps[rostrum/api.Pair]", "slices.overlaps[string]", "slices.overlaps[rostrum/api.Score]", "slices.overlaps[rostrum/api.Entry]"], unfollowed := true, recurses := true, named := ["rostrum/client.nothing"], apart := false, laid := [("rostrum/client.nothing", laid_rostrum_client_nothing)], narrowed := true }
def TopDoneAnyUptoSaid : Prop := topDoneAnyUptoRow.holds Tryz.pinned (OpenSpec.upto topDoneAnySpec)

/-- 'rostrumtop.TopReplayAny', WHERE WHAT IT READS IS OF BULK AT MOST 1048576: true; the input reads as it did. -/
def topReplayAnyUptoRow : OpenClaim := { program := "ytgdcofbnbiclmaagreatdoor", sum := "29e1142288142ed57d0ebfe4034f5d764119579d8b9083a7f9066eacf5ad9615", func := "rostrum/rostrumtop.TopReplayAny", spec := "topReplayAny", inPlace := ["internal/bytealg.abigen_runtime_cmpstring", "slices.overlaps[rostrum/api.Pair]", "slices.overlaps[string]", "slices.overlaps[rostrum/api.Score]", "slices.overlaps[rostrum/api.Entry]"], unfollowed := true, recurses := true, named := ["rostrum/client.nothing"], apart := false, laid := [("rostrum/client.nothing", laid_rostrum_client_nothing)], narrowed := true }
def TopReplayAnyUptoSaid : Prop := topReplayAnyUptoRow.holds Tryz.pinned (OpenSpec.upto topReplayAnySpec)

/-- 'rostrumtop.TopKeptAny', WHERE WHAT IT READS IS OF BULK AT MOST 1048576: true; the input reads as it did. -/
def topKeptAnyUptoRow : OpenClaim := { program := "ytgdcofbnbiclmaagreatdoor", sum := "29e1142288142ed57d0ebfe4034f5d764119579d8b9083a7f9066eacf5ad9615", func := "rostrum/rostrumtop.TopKeptAny", spec := "topKeptAny", inPlace := ["internal/bytealg.abigen_runtime_cmpstring", "slices.overlaps[rostrum/api.Pair]", "slices.overlaps[string]", "slices.overlaps[rostrum/api.Score]", "slices.overlaps[rostrum/api.Entry]"], unfollowed := true, recurses := true, named := ["rostrum/client.nothing"], apart := false, laid := [("rostrum/client.nothing", laid_rostrum_client_nothing)], narrowed := true }
def TopKeptAnyUptoSaid : Prop := topKeptAnyUptoRow.holds Tryz.pinned (OpenSpec.upto topKeptAnySpec)

end Rows
end Go.Proofs.YtgdcofbnbiclmaaGreatDoor
