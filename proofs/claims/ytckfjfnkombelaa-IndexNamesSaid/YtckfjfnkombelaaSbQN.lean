/- search: each candidate once; the laws of candidates -/
import Derived.Test.YtckfjfnkombelaaSaQN
namespace Go.Proofs.Ytckfjfnkombelaa
open Go.RowKit Go.Shelf
set_option linter.unusedVariables false
set_option linter.unusedSimpArgs false

theorem ent_28 : Enters Try.prog 28 := enters_of Try.func28 (by kernel_rfl) rfl
def namesE (s : Sr) (n : Str) : Int := if srCk s ≠ 0 then srCk s else nameCk n
end Go.Proofs.Ytckfjfnkombelaa
