/- rostrumkeep.call. -/
import Derived.Test.YtmkheplfdajadaaCli
import Derived.Test.YtmkheplfdajadaaCliO
import Derived.Test.YtmkheplfdajadaaHeldX
namespace Go.Proofs.Ytmkheplfdajadaa
set_option linter.all false
open Go.RowKit
end Go.Proofs.Ytmkheplfdajadaa
