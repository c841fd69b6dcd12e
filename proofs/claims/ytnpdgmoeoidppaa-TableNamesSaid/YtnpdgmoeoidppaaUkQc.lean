import Derived.Test.YtnpdgmoeoidppaaLsQc
import Derived.Test.YtnpdgmoeoidppaaUhQc
/- law 17: a push that is handed in -/
namespace Go.Proofs.Ytnpdgmoeoidppaa
open Go.RowKit Go.Shelf
set_option linter.unusedVariables false
set_option linter.unusedSimpArgs false

end Go.Proofs.Ytnpdgmoeoidppaa
