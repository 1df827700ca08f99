/- client.Do. -/
import Derived.Test.YtmkheplfdajadaaCliC
import Derived.Test.YtmkheplfdajadaaCliD
import Derived.Test.YtmkheplfdajadaaCliO
import Derived.Test.YtmkheplfdajadaaHeldX
import Derived.Test.YtmkheplfdajadaaCli
namespace Go.Proofs.Ytmkheplfdajadaa
set_option linter.all false
open Go.RowKit
end Go.Proofs.Ytmkheplfdajadaa
