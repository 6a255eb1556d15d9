/- What the law's arguments open to. -/
import Derived.Test.YtjcjodcpiickaaaDoorEngM7
import Derived.Test.YtjcjodcpiickaaaDoorProg
namespace Go.Proofs.YtjcjodcpiickaaaDoor.RD
open Go Go.VS Go.RowKit
set_option maxRecDepth 100000
set_option linter.unusedVariables false
set_option linter.unusedSimpArgs false

end Go.Proofs.YtjcjodcpiickaaaDoor.RD
