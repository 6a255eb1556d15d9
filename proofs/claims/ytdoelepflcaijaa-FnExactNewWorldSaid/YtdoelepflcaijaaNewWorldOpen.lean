/- What the law's arguments open to. -/
import Derived.Test.YtdoelepflcaijaaEngOpens
import Derived.Test.YtdoelepflcaijaaEngKinds
import Derived.Test.YtdoelepflcaijaaProg
namespace Go.Proofs.Ytdoelepflcaijaa.NewWorld
open Go Go.VS Go.RowKit
set_option maxRecDepth 100000
set_option linter.unusedVariables false
set_option linter.unusedSimpArgs false

end Go.Proofs.Ytdoelepflcaijaa.NewWorld
