/- A field of a value. -/
import Derived.Test.YtckfjfnkombelaaLpQC
namespace Go.Proofs.Ytckfjfnkombelaa
open Go.RowKit Go.Shelf
set_option linter.unusedVariables false

section
variable {x : Cx} {l : Fr} {L S : List Ch} {d : Nat} {ty : TypeId} {pos : String} {af : Array Edge} {gd : Option (Nat × Bool)}
theorem y_fieldv {t : TypeId} {y : Operand} {i : Nat} {u v : Value} (hy : ev l y = some u) (hf : ∀ w, (Instr.field t u i).run x.P w = .ok v w) :
    Yv x l L S ⟨some d, .field t y i, ty, pos, af, gd⟩ v := fun a w ha hw => by
  simp [execOp, ha.ev hy, hf w]
end
end Go.Proofs.Ytckfjfnkombelaa
