/- an index finds what the reference finds: the plain law -/
import Derived.Test.YtckfjfnkombelaaIbQO
namespace Go.Proofs.Ytckfjfnkombelaa
open Go.RowKit Go.Shelf
set_option linter.unusedVariables false
set_option linter.unusedSimpArgs false

def lookE (es : List En) (key : Str) : Option En := es.find? fun e => decide (foldN e.host = key)
def findE (es : List En) (n : Str) : Option En := if nameCk n ≠ 0 then none else (lookE es (foldN n)).or ((pars (foldN n)).findSome? fun p => lookE es ([1, 42] ++ p))
theorem findSome_map {α β γ : Type} (f : α → Option β) (g : β → γ) : ∀ l : List α, (l.findSome? f).map g = l.findSome? fun a => (f a).map g
  | [] => rfl
  | a :: r => by
    rw [List.findSome?_cons, List.findSome?_cons]
    cases f a with
    | none => exact findSome_map f g r
    | some b => rfl
theorem hm_look {m : List (Str × Le)} {l : List Le} (h : HmOk m l) (key : Str) : (lkp m key).map (·.e) = lookE (l.map (·.e)) key := by
  rw [h key, lookE, List.find?_map]; rfl
theorem find_E {m : List (Str × Le)} {l : List Le} (h : HmOk m l) (n : Str) : (findI m n).map (·.e) = findE (l.map (·.e)) n := by
  unfold findI findE
  split
  · rfl
  · rw [← hm_look h]
    have : ∀ o p : Option Le, (o.or p).map (·.e) = (o.map (·.e)).or (p.map (·.e)) := fun o p => by cases o <;> rfl
    rw [this, findSome_map]
    congr 2
    funext p
    exact hm_look h _
/-- A table that may be. -/
theorem tab_zero {v : Int} {l : List Le} (h : tabCk v l = 0) : (∀ x ∈ l, entCk x.e = 0) ∧ Rises l ∧ l.length ≤ 256 ∧ 0 ≤ v ∧ v ≤ 2147483647 := by
  unfold tabCk at h
  split at h
  · omega
  · split at h
    · omega
    · split at h
      · omega
      · rename_i h1 h2 h3
        refine ⟨entsCk_zero.1 (by omega), ?_, by omega, ?_, ?_⟩
        · exact Decidable.not_not.1 (fun q => h3 (.inl q))
        · by_cases q : 0 ≤ v
          · exact q
          · exact absurd (.inr (.inl (by omega))) h3
        · by_cases q : v ≤ 2147483647
          · exact q
          · exact absurd (.inr (.inr (by omega))) h3
end Go.Proofs.Ytckfjfnkombelaa
