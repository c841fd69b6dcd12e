/- an index finds what the reference finds: the plain law -/
import Derived.Test.YtckfjfnkombelaaIbQN
namespace Go.Proofs.Ytckfjfnkombelaa
open Go.RowKit Go.Shelf
set_option linter.unusedVariables false
set_option linter.unusedSimpArgs false

def lookE (es : List En) (key : Str) : Option En := es.find? fun e => decide (foldN e.host = key)
def findE (es : List En) (n : Str) : Option En := if nameCk n ≠ 0 then none else (lookE es (foldN n)).or ((pars (foldN n)).findSome? fun p => lookE es ([1, 42] ++ p))
theorem findSome_map {α β γ : Type} (f : α → Option β) (g : β → γ) : ∀ l : List α, (l.findSome? f).map g = l.findSome? fun a => (f a).map g
  | [] => rfl
  | a :: r => by
    rw [List.findSome?_cons, List.findSome?_cons]
    cases f a with
    | none => exact findSome_map f g r
    | some b => rfl
theorem hm_look {m : List (Str × Le)} {l : List Le} (h : HmOk m l) (key : Str) : (lkp m key).map (·.e) = lookE (l.map (·.e)) key := by
  rw [h key, lookE, List.find?_map]; rfl
theorem find_E {m : List (Str × Le)} {l : List Le} (h : HmOk m l) (n : Str) : (findI m n).map (·.e) = findE (l.map (·.e)) n := by
  unfold findI findE
  split
  · rfl
  · rw [← hm_look h]
    have : ∀ o p : Option Le, (o.or p).map (·.e) = (o.map (·.e)).or (p.map (·.e)) := fun o p => by cases o <;> rfl
    rw [this, findSome_map]
    congr 2
    funext p
    exact hm_look h _
/-- Hosts that may be, unlike one another. -/
structure HostsOk (es : List En) : Prop where
  ck : ∀ e ∈ es, nameCk e.host = 0
  dis : ∀ e ∈ es, ∀ f ∈ es, foldN e.host = foldN f.host → e = f
theorem look_some {es : List En} (h : HostsOk es) {e : En} (he : e ∈ es) : lookE es (foldN e.host) = some e := by
  cases hl : lookE es (foldN e.host) with
  | none =>
    have := List.find?_eq_none.1 hl e he
    simp at this
  | some f =>
    have h1 := List.mem_of_find?_eq_some hl
    have h2 := List.find?_some hl
    simp only [decide_eq_true_eq] at h2
    rw [h.dis f h1 e he h2]
theorem look_mem {es : List En} {key : Str} {e : En} (h : lookE es key = some e) : e ∈ es ∧ foldN e.host = key := by
  have h1 := List.mem_of_find?_eq_some h
  have h2 := List.find?_some h
  simp only [decide_eq_true_eq] at h2
  exact ⟨h1, h2⟩
theorem same2_iff {a b : Str} (ha : nameCk a = 0) (hb : nameCk b = 0) : same2 a b = true ↔ foldN a = foldN b := by
  simp [same2, ha, hb]
/-- A table that may be. -/
theorem tab_zero {v : Int} {l : List Le} (h : tabCk v l = 0) : (∀ x ∈ l, entCk x.e = 0) ∧ Rises l ∧ l.length ≤ 256 ∧ 0 ≤ v ∧ v ≤ 2147483647 := by
  unfold tabCk at h
  split at h
  · omega
  · split at h
    · omega
    · split at h
      · omega
      · rename_i h1 h2 h3
        refine ⟨entsCk_zero.1 (by omega), ?_, by omega, ?_, ?_⟩
        · exact Decidable.not_not.1 (fun q => h3 (.inl q))
        · by_cases q : 0 ≤ v
          · exact q
          · exact absurd (.inr (.inl (by omega))) h3
        · by_cases q : v ≤ 2147483647
          · exact q
          · exact absurd (.inr (.inr (by omega))) h3
theorem rises_far {l : List Le} (h : Rises l) (i : Nat) : ∀ d, i + d + 1 < l.length → cmpN (hst l i) (hst l (i + d + 1)) < 0
  | 0, hd => by
    have := h (i + 1) (by omega) hd
    rw [cmpN_anti (l.getD (i + 1 - 1) le0).e.host] at this
    show cmpN (l.getD i le0).e.host (l.getD (i + 1) le0).e.host < 0
    rw [Nat.add_sub_cancel] at this
    omega
  | d + 1, hd => by
    have ih := rises_far h i d (by omega)
    have := h (i + (d + 1) + 1) (by omega) hd
    rw [cmpN_anti (l.getD (i + (d + 1) + 1 - 1) le0).e.host] at this
    rw [Nat.add_sub_cancel] at this
    exact cmpN_trans ih (by show cmpN (l.getD (i + (d + 1)) le0).e.host (l.getD (i + (d + 1) + 1) le0).e.host < 0; omega)
theorem tab_hosts {v : Int} {l : List Le} (h : tabCk v l = 0) : HostsOk (l.map (·.e)) := by
  obtain ⟨h1, h2, _⟩ := tab_zero h
  have ck : ∀ e ∈ l.map (·.e), nameCk e.host = 0 := fun e he => by
    obtain ⟨x, hx, rfl⟩ := List.mem_map.1 he
    exact ck_host (h1 x hx)
  have at_ : ∀ i, i < l.length → l[i]? = some (l.getD i le0) := fun i hi => by rw [List.getD_eq_getElem?_getD, List.getElem?_eq_getElem hi]; rfl
  have key : ∀ i j, i < j → j < l.length → foldN (hst l i) ≠ foldN (hst l j) := fun i j hij hj e => by
    obtain ⟨d, rfl⟩ : ∃ d, j = i + d + 1 := ⟨j - i - 1, by omega⟩
    have h3 := rises_far h2 i d hj
    have c1 : nameCk (hst l i) = 0 := ck_host (h1 _ (mem_getD (by omega)))
    have c2 : nameCk (hst l (i + d + 1)) = 0 := ck_host (h1 _ (mem_getD hj))
    rw [(cmpN_zero c1 c2).2 e] at h3
    omega
  refine ⟨ck, fun e he f hf hef => ?_⟩
  obtain ⟨x, hx, rfl⟩ := List.mem_map.1 he
  obtain ⟨y, hy, rfl⟩ := List.mem_map.1 hf
  obtain ⟨i, hi, rfl⟩ := List.mem_iff_getElem.1 hx
  obtain ⟨j, hj, rfl⟩ := List.mem_iff_getElem.1 hy
  have gi : (l.getD i le0) = l[i] := by rw [List.getD_eq_getElem?_getD, List.getElem?_eq_getElem hi]; rfl
  have gj : (l.getD j le0) = l[j] := by rw [List.getD_eq_getElem?_getD, List.getElem?_eq_getElem hj]; rfl
  rcases Nat.lt_trichotomy i j with q | q | q
  · exact absurd (by rw [hst, hst, gi, gj]; exact hef) (key i j q hj)
  · subst q; rfl
  · exact absurd (by rw [hst, hst, gi, gj]; exact hef.symm) (key j i q hi)
end Go.Proofs.Ytckfjfnkombelaa
