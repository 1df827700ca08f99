/- rostrumkeep.record. -/
import Derived.Test.YtmkheplfdajadaaTapN
namespace Go.Proofs.Ytmkheplfdajadaa
set_option linter.all false
open Go.RowKit
end Go.Proofs.Ytmkheplfdajadaa
