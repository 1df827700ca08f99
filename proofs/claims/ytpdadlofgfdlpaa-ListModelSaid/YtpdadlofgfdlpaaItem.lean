/- Items: rostrumkeep.Item, wire.CheckItem. -/
import Derived.Test.YtpdadlofgfdlpaaCall
import Derived.Test.YtpdadlofgfdlpaaArgs
import Derived.Deep.RegionHeld3
namespace Go.Proofs.Ytpdadlofgfdlpaa
set_option linter.all false
open Go.RowKit
structure Itm where
  term : Int
  time : Int
  nop : Bool
  client : Int
  seq : Int
  cmd : Cmd
def Itm.cells (x : Itm) : List Value := [.int .i64 x.term, .int .i64 x.time, .bool x.nop, .int .i64 x.client, .int .i64 x.seq, .int .i64 x.cmd.kind, .string x.cmd.key, .string x.cmd.field, .string x.cmd.text, .int .i64 x.cmd.n]
def zeroCmd : Cmd := { kind := 0, key := emp, field := emp, text := emp, n := 0 }
def cmdR (r : RawD) : Cmd := cmdOf r.kind r.key r.field r.n r.text
def itemOf (d : DeedD) (term time : Int) : Itm :=
  if (picked d.client 5 == 0) = true then { term := 1 + picked term 1000, time := picked time 100000, nop := true, client := 0, seq := 0, cmd := zeroCmd }
  else if (picked d.client 5 == 1) = true then { term := 1 + picked term 1000, time := picked time 100000, nop := false, client := 0, seq := 0, cmd := zeroCmd }
  else { term := 1 + picked term 1000, time := picked time 100000, nop := false, client := picked d.client 50 + 1, seq := 1 + picked d.off 100, cmd := cmdR d.raw }
end Go.Proofs.Ytpdadlofgfdlpaa
