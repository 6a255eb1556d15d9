/- Marks, comparisons, sizes and copies of lists of numbers and of texts. -/
import Derived.Test.YtjcjodcpiickaaaGreatDoorEngM7
import Derived.Test.YtjcjodcpiickaaaGreatDoorRATab
namespace Go.Proofs.YtjcjodcpiickaaaGreatDoor.RA
open Go Go.VS
set_option maxRecDepth 10000
set_option linter.unusedSimpArgs false
set_option linter.unusedVariables false


end Go.Proofs.YtjcjodcpiickaaaGreatDoor.RA
