/- hash: the sums -/
import Derived.Test.YtckfjfnkombelaaGreatCbQC
namespace Go.Proofs.YtckfjfnkombelaaGreat
open Go.RowKit Go.Shelf
set_option linter.unusedVariables false
set_option linter.unusedSimpArgs false

end Go.Proofs.YtckfjfnkombelaaGreat
