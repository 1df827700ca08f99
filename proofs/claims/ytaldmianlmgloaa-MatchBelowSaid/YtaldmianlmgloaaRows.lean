/-
  No cell of these rows narrows 'for every input' (looked for: loops, veiled, ifaces, maps, wideKeys, modest, calm, conditions, laid).
  DERIVED. THE GIVEN ROWS OF THIS SEAT. 12 by the template 'for every input the law returns true; each argument reads behind the call as it read before'; 0 by the template 'total and deterministic' (their statements: YtaldmianlmgloaaTotals.lean).
  GIVEN WITH THE SEED: the statements are not yours to turn. If you find one false, say at which input.
  Laid BY PROGRAM, IN A SANDBOX (cutbox-rows.mjs): the forced cells as the released guide's own fill.sh prints them over the translation 044c74a0f07f1835… (all of the seat's roots in one cut). By AI agents, Wed Nov 11 2026. No macro, syntax, notation, axiom, sorry.
-/
import Derived.Test.YtaldmianlmgloaaChecked
import GoSem.Claim
import GoSem.ClaimJoined
import GoSem.ClaimMapViews
import Derived.JoinedTies
import Derived.KernelRfl
namespace Go.Proofs.Ytaldmianlmgloaa
/- THE CELL 'sum', in the pinned program and in every row, IS THE sha256 OF THE DUMP (.gsa) THAT YtaldmianlmgloaaProg.lean LOADS. Nothing in Lean hashes anything: it is a label: what it is worth is what the hold of that sum in a sandbox is worth. -/
noncomputable def Try.pinned : Pinned := { name := "ytaldmianlmgloaa", sum := "044c74a0f07f183500d1ead3eecd747b6ca5e3a5ebd817645209f87648b453e3", checked := Try.checked }
namespace Rows
def none {H : Type} : Left H := { results := [], args := [] }

/-- 'rostrumkeep.ReplyBad': WHATEVER THE INPUT: true; the input reads as it did. -/
def replyBadSpec : ChangeSpec := { name := "replyBad", fn := fun _ => fun
  | [d1, d2] => { results := [.lit (.bool true)], args := [d1, d2] }
  | _ => none }
def replyBadRow : OpenClaim := { program := "ytaldmianlmgloaa", sum := "044c74a0f07f183500d1ead3eecd747b6ca5e3a5ebd817645209f87648b453e3", func := "rostrum/rostrumkeep.ReplyBad", spec := "replyBad", unfollowed := true, recurses := true, apart := false }
def ReplyBadSaid : Prop := replyBadRow.holds Try.pinned (OpenSpec.ofChange replyBadSpec)

/-- ITS FALSE NEIGHBOUR: 'it returns false'. Refute it at one input. -/
def replyBadWrong : ChangeSpec := { name := "replyBad", fn := fun _ => fun
  | [d1, d2] => { results := [.lit (.bool false)], args := [d1, d2] }
  | _ => none }
def ReplyBadWrongFalsely : Prop := replyBadRow.holds Try.pinned (OpenSpec.ofChange replyBadWrong)

/-- 'rostrumkeep.CommandSize': WHATEVER THE INPUT: true; the input reads as it did. -/
def commandSizeSpec : ChangeSpec := { name := "commandSize", fn := fun _ => fun
  | [d1, d2] => { results := [.lit (.bool true)], args := [d1, d2] }
  | _ => none }
def commandSizeRow : OpenClaim := { program := "ytaldmianlmgloaa", sum := "044c74a0f07f183500d1ead3eecd747b6ca5e3a5ebd817645209f87648b453e3", func := "rostrum/rostrumkeep.CommandSize", spec := "commandSize", apart := false }
def CommandSizeSaid : Prop := commandSizeRow.holds Try.pinned (OpenSpec.ofChange commandSizeSpec)

/-- ITS FALSE NEIGHBOUR: 'it returns false'. Refute it at one input. -/
def commandSizeWrong : ChangeSpec := { name := "commandSize", fn := fun _ => fun
  | [d1, d2] => { results := [.lit (.bool false)], args := [d1, d2] }
  | _ => none }
def CommandSizeWrongFalsely : Prop := commandSizeRow.holds Try.pinned (OpenSpec.ofChange commandSizeWrong)

/-- 'rostrumkeep.CallBad': WHATEVER THE INPUT: true; the input reads as it did. -/
def callBadSpec : ChangeSpec := { name := "callBad", fn := fun _ => fun
  | [d1, d2] => { results := [.lit (.bool true)], args := [d1, d2] }
  | _ => none }
def callBadRow : OpenClaim := { program := "ytaldmianlmgloaa", sum := "044c74a0f07f183500d1ead3eecd747b6ca5e3a5ebd817645209f87648b453e3", func := "rostrum/rostrumkeep.CallBad", spec := "callBad", apart := false }
def CallBadSaid : Prop := callBadRow.holds Try.pinned (OpenSpec.ofChange callBadSpec)

/-- ITS FALSE NEIGHBOUR: 'it returns false'. Refute it at one input. -/
def callBadWrong : ChangeSpec := { name := "callBad", fn := fun _ => fun
  | [d1, d2] => { results := [.lit (.bool false)], args := [d1, d2] }
  | _ => none }
def CallBadWrongFalsely : Prop := callBadRow.holds Try.pinned (OpenSpec.ofChange callBadWrong)

/-- 'rostrumkeep.TermTold': WHATEVER THE INPUT: true; the input reads as it did. -/
def termToldSpec : ChangeSpec := { name := "termTold", fn := fun _ => fun
  | [d1, d2] => { results := [.lit (.bool true)], args := [d1, d2] }
  | _ => none }
def termToldRow : OpenClaim := { program := "ytaldmianlmgloaa", sum := "044c74a0f07f183500d1ead3eecd747b6ca5e3a5ebd817645209f87648b453e3", func := "rostrum/rostrumkeep.TermTold", spec := "termTold", apart := false }
def TermToldSaid : Prop := termToldRow.holds Try.pinned (OpenSpec.ofChange termToldSpec)

/-- ITS FALSE NEIGHBOUR: 'it returns false'. Refute it at one input. -/
def termToldWrong : ChangeSpec := { name := "termTold", fn := fun _ => fun
  | [d1, d2] => { results := [.lit (.bool false)], args := [d1, d2] }
  | _ => none }
def TermToldWrongFalsely : Prop := termToldRow.holds Try.pinned (OpenSpec.ofChange termToldWrong)

/-- 'rostrumkeep.NewerOrder': WHATEVER THE INPUT: true; the input reads as it did. -/
def newerOrderSpec : ChangeSpec := { name := "newerOrder", fn := fun _ => fun
  | [d1, d2, d3, d4] => { results := [.lit (.bool true)], args := [d1, d2, d3, d4] }
  | _ => none }
def newerOrderRow : OpenClaim := { program := "ytaldmianlmgloaa", sum := "044c74a0f07f183500d1ead3eecd747b6ca5e3a5ebd817645209f87648b453e3", func := "rostrum/rostrumkeep.NewerOrder", spec := "newerOrder", apart := false }
def NewerOrderSaid : Prop := newerOrderRow.holds Try.pinned (OpenSpec.ofChange newerOrderSpec)

/-- ITS FALSE NEIGHBOUR: 'it returns false'. Refute it at one input. -/
def newerOrderWrong : ChangeSpec := { name := "newerOrder", fn := fun _ => fun
  | [d1, d2, d3, d4] => { results := [.lit (.bool false)], args := [d1, d2, d3, d4] }
  | _ => none }
def NewerOrderWrongFalsely : Prop := newerOrderRow.holds Try.pinned (OpenSpec.ofChange newerOrderWrong)

/-- 'rostrumkeep.ItemsApart': WHATEVER THE INPUT: true; the input reads as it did. -/
def itemsApartSpec : ChangeSpec := { name := "itemsApart", fn := fun _ => fun
  | [d1, d2, d3, d4] => { results := [.lit (.bool true)], args := [d1, d2, d3, d4] }
  | _ => none }
def itemsApartRow : OpenClaim := { program := "ytaldmianlmgloaa", sum := "044c74a0f07f183500d1ead3eecd747b6ca5e3a5ebd817645209f87648b453e3", func := "rostrum/rostrumkeep.ItemsApart", spec := "itemsApart", apart := false }
def ItemsApartSaid : Prop := itemsApartRow.holds Try.pinned (OpenSpec.ofChange itemsApartSpec)

/-- ITS FALSE NEIGHBOUR: 'it returns false'. Refute it at one input. -/
def itemsApartWrong : ChangeSpec := { name := "itemsApart", fn := fun _ => fun
  | [d1, d2, d3, d4] => { results := [.lit (.bool false)], args := [d1, d2, d3, d4] }
  | _ => none }
def ItemsApartWrongFalsely : Prop := itemsApartRow.holds Try.pinned (OpenSpec.ofChange itemsApartWrong)

/-- 'rostrumkeep.ItemBad': WHATEVER THE INPUT: true; the input reads as it did. -/
def itemBadSpec : ChangeSpec := { name := "itemBad", fn := fun _ => fun
  | [d1, d2] => { results := [.lit (.bool true)], args := [d1, d2] }
  | _ => none }
def itemBadRow : OpenClaim := { program := "ytaldmianlmgloaa", sum := "044c74a0f07f183500d1ead3eecd747b6ca5e3a5ebd817645209f87648b453e3", func := "rostrum/rostrumkeep.ItemBad", spec := "itemBad", apart := false }
def ItemBadSaid : Prop := itemBadRow.holds Try.pinned (OpenSpec.ofChange itemBadSpec)

/-- ITS FALSE NEIGHBOUR: 'it returns false'. Refute it at one input. -/
def itemBadWrong : ChangeSpec := { name := "itemBad", fn := fun _ => fun
  | [d1, d2] => { results := [.lit (.bool false)], args := [d1, d2] }
  | _ => none }
def ItemBadWrongFalsely : Prop := itemBadRow.holds Try.pinned (OpenSpec.ofChange itemBadWrong)

/-- 'rostrumkeep.LastTold': WHATEVER THE INPUT: true; the input reads as it did. -/
def lastToldSpec : ChangeSpec := { name := "lastTold", fn := fun _ => fun
  | [d1, d2] => { results := [.lit (.bool true)], args := [d1, d2] }
  | _ => none }
def lastToldRow : OpenClaim := { program := "ytaldmianlmgloaa", sum := "044c74a0f07f183500d1ead3eecd747b6ca5e3a5ebd817645209f87648b453e3", func := "rostrum/rostrumkeep.LastTold", spec := "lastTold", apart := false }
def LastToldSaid : Prop := lastToldRow.holds Try.pinned (OpenSpec.ofChange lastToldSpec)

/-- ITS FALSE NEIGHBOUR: 'it returns false'. Refute it at one input. -/
def lastToldWrong : ChangeSpec := { name := "lastTold", fn := fun _ => fun
  | [d1, d2] => { results := [.lit (.bool false)], args := [d1, d2] }
  | _ => none }
def LastToldWrongFalsely : Prop := lastToldRow.holds Try.pinned (OpenSpec.ofChange lastToldWrong)

/-- 'rostrumkeep.BehindTold': WHATEVER THE INPUT: true; the input reads as it did. -/
def behindToldSpec : ChangeSpec := { name := "behindTold", fn := fun _ => fun
  | [d1, d2, d3, d4] => { results := [.lit (.bool true)], args := [d1, d2, d3, d4] }
  | _ => none }
def behindToldRow : OpenClaim := { program := "ytaldmianlmgloaa", sum := "044c74a0f07f183500d1ead3eecd747b6ca5e3a5ebd817645209f87648b453e3", func := "rostrum/rostrumkeep.BehindTold", spec := "behindTold", apart := false }
def BehindToldSaid : Prop := behindToldRow.holds Try.pinned (OpenSpec.ofChange behindToldSpec)

/-- ITS FALSE NEIGHBOUR: 'it returns false'. Refute it at one input. -/
def behindToldWrong : ChangeSpec := { name := "behindTold", fn := fun _ => fun
  | [d1, d2, d3, d4] => { results := [.lit (.bool false)], args := [d1, d2, d3, d4] }
  | _ => none }
def BehindToldWrongFalsely : Prop := behindToldRow.holds Try.pinned (OpenSpec.ofChange behindToldWrong)

/-- 'rostrumkeep.TrimKeeps': WHATEVER THE INPUT: true; the input reads as it did. -/
def trimKeepsSpec : ChangeSpec := { name := "trimKeeps", fn := fun _ => fun
  | [d1, d2, d3] => { results := [.lit (.bool true)], args := [d1, d2, d3] }
  | _ => none }
def trimKeepsRow : OpenClaim := { program := "ytaldmianlmgloaa", sum := "044c74a0f07f183500d1ead3eecd747b6ca5e3a5ebd817645209f87648b453e3", func := "rostrum/rostrumkeep.TrimKeeps", spec := "trimKeeps", apart := false }
def TrimKeepsSaid : Prop := trimKeepsRow.holds Try.pinned (OpenSpec.ofChange trimKeepsSpec)

/-- ITS FALSE NEIGHBOUR: 'it returns false'. Refute it at one input. -/
def trimKeepsWrong : ChangeSpec := { name := "trimKeeps", fn := fun _ => fun
  | [d1, d2, d3] => { results := [.lit (.bool false)], args := [d1, d2, d3] }
  | _ => none }
def TrimKeepsWrongFalsely : Prop := trimKeepsRow.holds Try.pinned (OpenSpec.ofChange trimKeepsWrong)

/-- 'rostrumkeep.MatchBelow': WHATEVER THE INPUT: true; the input reads as it did. -/
def matchBelowSpec : ChangeSpec := { name := "matchBelow", fn := fun _ => fun
  | [d1, d2, d3] => { results := [.lit (.bool true)], args := [d1, d2, d3] }
  | _ => none }
def matchBelowRow : OpenClaim := { program := "ytaldmianlmgloaa", sum := "044c74a0f07f183500d1ead3eecd747b6ca5e3a5ebd817645209f87648b453e3", func := "rostrum/rostrumkeep.MatchBelow", spec := "matchBelow", apart := false }
def MatchBelowSaid : Prop := matchBelowRow.holds Try.pinned (OpenSpec.ofChange matchBelowSpec)

/-- ITS FALSE NEIGHBOUR: 'it returns false'. Refute it at one input. -/
def matchBelowWrong : ChangeSpec := { name := "matchBelow", fn := fun _ => fun
  | [d1, d2, d3] => { results := [.lit (.bool false)], args := [d1, d2, d3] }
  | _ => none }
def MatchBelowWrongFalsely : Prop := matchBelowRow.holds Try.pinned (OpenSpec.ofChange matchBelowWrong)

/-- 'rostrumkeep.MatchBad': WHATEVER THE INPUT: true; the input reads as it did. -/
def matchBadSpec : ChangeSpec := { name := "matchBad", fn := fun _ => fun
  | [d1, d2, d3] => { results := [.lit (.bool true)], args := [d1, d2, d3] }
  | _ => none }
def matchBadRow : OpenClaim := { program := "ytaldmianlmgloaa", sum := "044c74a0f07f183500d1ead3eecd747b6ca5e3a5ebd817645209f87648b453e3", func := "rostrum/rostrumkeep.MatchBad", spec := "matchBad", apart := false }
def MatchBadSaid : Prop := matchBadRow.holds Try.pinned (OpenSpec.ofChange matchBadSpec)

/-- ITS FALSE NEIGHBOUR: 'it returns false'. Refute it at one input. -/
def matchBadWrong : ChangeSpec := { name := "matchBad", fn := fun _ => fun
  | [d1, d2, d3] => { results := [.lit (.bool false)], args := [d1, d2, d3] }
  | _ => none }
def MatchBadWrongFalsely : Prop := matchBadRow.holds Try.pinned (OpenSpec.ofChange matchBadWrong)

/- THE SECOND FORM. 'bulk': how many values and letters a reading holds, each counted each time it is reached (what is shared counts as often as it is met; a slice's spare places count too). A statement '..UptoSaid' is the law's where the arguments, and the package variables that the reading takes, are together of bulk at most 1048576: NARROWER than '..Said'. Prove '..Said' where nothing that the law and all that it calls make is longer than what came in: it says more and counts as full. Else prove '..UptoSaid'. A law counts once. -/
mutual
def uptoBulk {H : Type} : DataW H → Nat
  | .lit (.string bytes) => bytes.length + 1
  | .lit _ => 1
  | .nil => 1
  | .ptr d => uptoBulk d + 1
  | .slice elems spare => uptoBulkAll elems + uptoBulkAll spare + 1
  | .agg parts => uptoBulkAll parts + 1
  | .iface _ d => uptoBulk d + 1
  | .map entries => uptoBulkEntries entries + 1
  | .held _ => 1
def uptoBulkAll {H : Type} : List (DataW H) → Nat
  | [] => 0
  | d :: r => uptoBulk d + uptoBulkAll r
def uptoBulkEntries {H : Type} : List (Lit × DataW H) → Nat
  | [] => 0
  | x :: r => uptoBulkEntry x + uptoBulkEntries r
def uptoBulkEntry {H : Type} : Lit × DataW H → Nat
  | (.string bytes, d) => bytes.length + uptoBulk d + 1
  | (_, d) => uptoBulk d + 1
 end
def uptoSmall : (H : Type) → List (DataW H) → Bool := fun _ ds => decide (uptoBulkAll ds ≤ 1048576)
def OpenSpec.upto (s : _root_.Go.ChangeSpec) : _root_.Go.OpenSpec := { _root_.Go.OpenSpec.ofChange s with cond := some uptoSmall }

/-- 'rostrumkeep.ReplyBad', WHERE WHAT IT READS IS OF BULK AT MOST 1048576: true; the input reads as it did. -/
def replyBadUptoRow : OpenClaim := { program := "ytaldmianlmgloaa", sum := "044c74a0f07f183500d1ead3eecd747b6ca5e3a5ebd817645209f87648b453e3", func := "rostrum/rostrumkeep.ReplyBad", spec := "replyBad", unfollowed := true, recurses := true, apart := false, narrowed := true }
def ReplyBadUptoSaid : Prop := replyBadUptoRow.holds Try.pinned (OpenSpec.upto replyBadSpec)

/-- 'rostrumkeep.CommandSize', WHERE WHAT IT READS IS OF BULK AT MOST 1048576: true; the input reads as it did. -/
def commandSizeUptoRow : OpenClaim := { program := "ytaldmianlmgloaa", sum := "044c74a0f07f183500d1ead3eecd747b6ca5e3a5ebd817645209f87648b453e3", func := "rostrum/rostrumkeep.CommandSize", spec := "commandSize", apart := false, narrowed := true }
def CommandSizeUptoSaid : Prop := commandSizeUptoRow.holds Try.pinned (OpenSpec.upto commandSizeSpec)

/-- 'rostrumkeep.CallBad', WHERE WHAT IT READS IS OF BULK AT MOST 1048576: true; the input reads as it did. -/
def callBadUptoRow : OpenClaim := { program := "ytaldmianlmgloaa", sum := "044c74a0f07f183500d1ead3eecd747b6ca5e3a5ebd817645209f87648b453e3", func := "rostrum/rostrumkeep.CallBad", spec := "callBad", apart := false, narrowed := true }
def CallBadUptoSaid : Prop := callBadUptoRow.holds Try.pinned (OpenSpec.upto callBadSpec)

/-- 'rostrumkeep.TermTold', WHERE WHAT IT READS IS OF BULK AT MOST 1048576: true; the input reads as it did. -/
def termToldUptoRow : OpenClaim := { program := "ytaldmianlmgloaa", sum := "044c74a0f07f183500d1ead3eecd747b6ca5e3a5ebd817645209f87648b453e3", func := "rostrum/rostrumkeep.TermTold", spec := "termTold", apart := false, narrowed := true }
def TermToldUptoSaid : Prop := termToldUptoRow.holds Try.pinned (OpenSpec.upto termToldSpec)

/-- 'rostrumkeep.NewerOrder', WHERE WHAT IT READS IS OF BULK AT MOST 1048576: true; the input reads as it did. -/
def newerOrderUptoRow : OpenClaim := { program := "ytaldmianlmgloaa", sum := "044c74a0f07f183500d1ead3eecd747b6ca5e3a5ebd817645209f87648b453e3", func := "rostrum/rostrumkeep.NewerOrder", spec := "newerOrder", apart := false, narrowed := true }
def NewerOrderUptoSaid : Prop := newerOrderUptoRow.holds Try.pinned (OpenSpec.upto newerOrderSpec)

/-- 'rostrumkeep.ItemsApart', WHERE WHAT IT READS IS OF BULK AT MOST 1048576: true; the input reads as it did. -/
def itemsApartUptoRow : OpenClaim := { program := "ytaldmianlmgloaa", sum := "044c74a0f07f183500d1ead3eecd747b6ca5e3a5ebd817645209f87648b453e3", func := "rostrum/rostrumkeep.ItemsApart", spec := "itemsApart", apart := false, narrowed := true }
def ItemsApartUptoSaid : Prop := itemsApartUptoRow.holds Try.pinned (OpenSpec.upto itemsApartSpec)

/-- 'rostrumkeep.ItemBad', WHERE WHAT IT READS IS OF BULK AT MOST 1048576: true; the input reads as it did. -/
def itemBadUptoRow : OpenClaim := { program := "ytaldmianlmgloaa", sum := "044c74a0f07f183500d1ead3eecd747b6ca5e3a5ebd817645209f87648b453e3", func := "rostrum/rostrumkeep.ItemBad", spec := "itemBad", apart := false, narrowed := true }
def ItemBadUptoSaid : Prop := itemBadUptoRow.holds Try.pinned (OpenSpec.upto itemBadSpec)

/-- 'rostrumkeep.LastTold', WHERE WHAT IT READS IS OF BULK AT MOST 1048576: true; the input reads as it did. -/
def lastToldUptoRow : OpenClaim := { program := "ytaldmianlmgloaa", sum := "044c74a0f07f183500d1ead3eecd747b6ca5e3a5ebd817645209f87648b453e3", func := "rostrum/rostrumkeep.LastTold", spec := "lastTold", apart := false, narrowed := true }
def LastToldUptoSaid : Prop := lastToldUptoRow.holds Try.pinned (OpenSpec.upto lastToldSpec)

/-- 'rostrumkeep.BehindTold', WHERE WHAT IT READS IS OF BULK AT MOST 1048576: true; the input reads as it did. -/
def behindToldUptoRow : OpenClaim := { program := "ytaldmianlmgloaa", sum := "044c74a0f07f183500d1ead3eecd747b6ca5e3a5ebd817645209f87648b453e3", func := "rostrum/rostrumkeep.BehindTold", spec := "behindTold", apart := false, narrowed := true }
def BehindToldUptoSaid : Prop := behindToldUptoRow.holds Try.pinned (OpenSpec.upto behindToldSpec)

/-- 'rostrumkeep.TrimKeeps', WHERE WHAT IT READS IS OF BULK AT MOST 1048576: true; the input reads as it did. -/
def trimKeepsUptoRow : OpenClaim := { program := "ytaldmianlmgloaa", sum := "044c74a0f07f183500d1ead3eecd747b6ca5e3a5ebd817645209f87648b453e3", func := "rostrum/rostrumkeep.TrimKeeps", spec := "trimKeeps", apart := false, narrowed := true }
def TrimKeepsUptoSaid : Prop := trimKeepsUptoRow.holds Try.pinned (OpenSpec.upto trimKeepsSpec)

/-- 'rostrumkeep.MatchBelow', WHERE WHAT IT READS IS OF BULK AT MOST 1048576: true; the input reads as it did. -/
def matchBelowUptoRow : OpenClaim := { program := "ytaldmianlmgloaa", sum := "044c74a0f07f183500d1ead3eecd747b6ca5e3a5ebd817645209f87648b453e3", func := "rostrum/rostrumkeep.MatchBelow", spec := "matchBelow", apart := false, narrowed := true }
def MatchBelowUptoSaid : Prop := matchBelowUptoRow.holds Try.pinned (OpenSpec.upto matchBelowSpec)

/-- 'rostrumkeep.MatchBad', WHERE WHAT IT READS IS OF BULK AT MOST 1048576: true; the input reads as it did. -/
def matchBadUptoRow : OpenClaim := { program := "ytaldmianlmgloaa", sum := "044c74a0f07f183500d1ead3eecd747b6ca5e3a5ebd817645209f87648b453e3", func := "rostrum/rostrumkeep.MatchBad", spec := "matchBad", apart := false, narrowed := true }
def MatchBadUptoSaid : Prop := matchBadUptoRow.holds Try.pinned (OpenSpec.upto matchBadSpec)

end Rows
end Go.Proofs.Ytaldmianlmgloaa
