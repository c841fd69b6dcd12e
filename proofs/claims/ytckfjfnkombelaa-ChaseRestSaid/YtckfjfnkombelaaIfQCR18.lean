/- candidates: the law of the examples -/
import Derived.Test.YtckfjfnkombelaaIeQCR18
namespace Go.Proofs.Ytckfjfnkombelaa
open Go.RowKit Go.Shelf
set_option linter.unusedVariables false
set_option linter.unusedSimpArgs false

theorem bu_41 : Try.prog.built 41 [] = some [.int .i64 0, .slice none 0 0].toArray := by kernel_rfl

end Go.Proofs.Ytckfjfnkombelaa
