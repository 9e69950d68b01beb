/- DrA. Printed by gen.py. -/
import Derived.Test.YtdepakimbagonaaTpA
import Derived.Test.YtdepakimbagonaaDrv
import Derived.Test.YtdepakimbagonaaE1
namespace Go.Proofs.Ytdepakimbagonaa
open Go.RowKit
set_option linter.unusedVariables false
set_option linter.unusedSimpArgs false
set_option maxRecDepth 100000
set_option maxHeartbeats 4000000


end Go.Proofs.Ytdepakimbagonaa
