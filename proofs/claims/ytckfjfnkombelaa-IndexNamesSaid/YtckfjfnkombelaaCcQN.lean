/- hash: the sums -/
import Derived.Test.YtckfjfnkombelaaCbQN
namespace Go.Proofs.Ytckfjfnkombelaa
open Go.RowKit Go.Shelf
set_option linter.unusedVariables false
set_option linter.unusedSimpArgs false

end Go.Proofs.Ytckfjfnkombelaa
