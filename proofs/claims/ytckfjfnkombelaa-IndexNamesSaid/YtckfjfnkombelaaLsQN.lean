/- Parts of slices that are read. -/
import Derived.Test.YtckfjfnkombelaaLrQN
namespace Go.Proofs.Ytckfjfnkombelaa
open Go.RowKit Go.Shelf
set_option linter.unusedVariables false

section
variable {x : Cx} {l : Fr} {L S : List Ch}
end
section
variable {x : Cx} {C : World → Prop} {l : Fr} {L S : List Ch} {Q : Exit → Act → World → Prop} {ops : Array Oper} {fuel m : Nat} {listed : Array Bool}
theorem wu_at {t : Nat} {p : Prop} [Decidable p] (h : look l t = some (.bool (decide p))) (hp : p) (k : WU x C m ops fuel listed ((t, .bool true) :: l) L S Q) : WU x C m ops fuel listed l L S Q := wu_as (.bool true) h (by rw [decide_eq_true hp]) k
end
theorem w_joinL {x : Cx} {l : Fr} {L S : List Ch} {Q : Exit → Act → World → Prop} {y z : Code} {σ : Type} (lf : σ → Fr) (Lf : σ → List Ch) (K : ∀ g : σ, W x (lf g ++ l) (Lf g) S z Q) (h : (∀ (g : σ) (l' : Fr), Kn2 l' [] (lf g ++ l) → W x l' (Lf g) S z Q) → W x l L S (.seq y z) Q) : W x l L S (.seq y z) Q := h (fun g l' hk a w ha hw => K g a w (ha.mono fun t v ht => hk.look t v ht rfl) hw)
theorem split_at {α : Type} {l : List α} {k : Nat} (d : α) (hk : k < l.length) : l = l.take k ++ l.getD k d :: l.drop (k + 1) := by
  rw [List.getD_eq_getElem?_getD, List.getElem?_eq_getElem hk]
  show l = l.take k ++ l[k] :: l.drop (k + 1)
  rw [← List.drop_eq_getElem_cons hk, List.take_append_drop]
theorem take_succ_getD {α : Type} {l : List α} {k : Nat} (d : α) (hk : k < l.length) : l.take (k + 1) = l.take k ++ [l.getD k d] := by
  rw [List.getD_eq_getElem?_getD, List.getElem?_eq_getElem hk, List.take_succ_eq_append_getElem hk]; rfl
end Go.Proofs.Ytckfjfnkombelaa
