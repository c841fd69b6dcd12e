/- Chains: plain laws. -/
import Derived.Test.YtckfjfnkombelaaIeQN
import Derived.Test.YtckfjfnkombelaaLpQN
namespace Go.Proofs.Ytckfjfnkombelaa
open Go.RowKit Go.Shelf
set_option linter.unusedVariables false
set_option linter.unusedSimpArgs false

section
variable {G : Str → Option Str}
end
/-- Neighbours. -/
def pairs : List Str → List (Str × Str)
  | a :: b :: r => (a, b) :: pairs (b :: r)
  | _ => []
end Go.Proofs.Ytckfjfnkombelaa
