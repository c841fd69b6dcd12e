import Derived.Test.YtfmelbpgkbiooaaGreatHaS
/- A map that holds whatever. -/
namespace Go.Proofs.YtfmelbpgkbiooaaGreat
open Go.RowKit Go.Shelf
set_option linter.unusedVariables false

def Ch.mpany {α β : Type} (r : Nat) (encK : α → Value) (encV : β → Value) : Ch := ⟨fun k => k = r, fun w => ∃ m, (Ch.mp r encK encV m).P w, fun w w' ⟨m, h⟩ k => ⟨m, (Ch.mp r encK encV m).st w w' h k⟩⟩
theorem Hp.anymp {α β : Type} {encK : α → Value} {encV : β → Value} {ok0 : Nat → Prop} {w0 : World} {L L' S : List Ch} {w : World} {i r : Nat} {m : List (α × β)} (h : Hp ok0 w0 L S w) (hi : SetAt L i (Ch.mp r encK encV m) (Ch.mpany r encK encV) L') : Hp ok0 w0 L' S w :=
  h.turn hi (fun hp => ⟨m, hp⟩) (fun _ h => h)
theorem w_drawVA {x : Cx} {l : Fr} {L S : List Ch} {Q : Exit → Act → World → Prop} {id : Nat} {ol : List Oper} {La Sa : List Ch} (m : Nat) (hm : x.P.follows .mixedOrders = true) (hA : ∀ w, Hp x.ok0 x.w0 L S w → Hp x.ok0 x.w0 La Sa w) (h : WV x (Hp x.ok0 x.w0 La Sa) m ol.toArray ol.length (Array.replicate ol.length false) l L S Q) : W x l L S (.region id ol.toArray true) Q := fun a w ha hw => by
  refine wpIn_region_any hm (wpAny_of_V (C := Hp x.ok0 x.w0 La Sa) (m := m) _ _ _ _ ?_)
  have := h a { w with drawn := w.drawn + 1 } ha hw.drew
  simpa using this
end Go.Proofs.YtfmelbpgkbiooaaGreat
