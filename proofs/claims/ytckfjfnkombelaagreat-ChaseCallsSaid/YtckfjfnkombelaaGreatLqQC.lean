/- A field of a value. -/
import Derived.Test.YtckfjfnkombelaaGreatLpQC
namespace Go.Proofs.YtckfjfnkombelaaGreat
open Go.RowKit Go.Shelf
set_option linter.unusedVariables false

section
variable {x : Cx} {l : Fr} {L S : List Ch} {d : Nat} {ty : TypeId} {pos : String} {af : Array Edge} {gd : Option (Nat × Bool)}
theorem y_nep {y z : Operand} {a : Option Addr} {yt zt e : TypeId} (h : x.P.underlying yt = some (.pointer e)) (hy : ev l y = some (.pointer a)) (hz : ev l z = some (.pointer none)) :
    Yv x l L S ⟨some d, .binOp .neq yt y z zt, ty, pos, af, gd⟩ (.bool (!a.isNone)) := y_neg (eqb_pn h a) rfl hy hz
end
end Go.Proofs.YtckfjfnkombelaaGreat
