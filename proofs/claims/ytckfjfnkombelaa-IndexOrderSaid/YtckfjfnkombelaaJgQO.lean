/- an index in plain words: whatever order; a host looked for in a table -/
import Derived.Test.YtckfjfnkombelaaJfQO
namespace Go.Proofs.Ytckfjfnkombelaa
open Go.RowKit Go.Shelf
set_option linter.unusedVariables false
set_option linter.unusedSimpArgs false

def lookN (es : List En) (n : Str) : Option En := if nameCk n ≠ 0 then none else lookE es (foldN n)
def hdAd (hs : List Hd) (a : Ad) : Option Hd := hs.find? fun h => decide (h.ad = a)
def hdHost (hs : List Hd) (key : Str) : Option Hd := hs.find? fun h => decide (foldN h.host = key)
def ofE (es : List En) (hs : List Hd) (a : Ad) : Option En := ((hdAd hs a).bind fun h => lookE es (foldN h.host)).or (es.find? fun e => decide (a ∈ e.addrs))
def adsE (es : List En) (hs : List Hd) (n : Str) : List Ad := match lookN es n with
  | none => []
  | some e => entAd e ((hdHost hs (foldN e.host)).map (·.ad)).toList
def lostQ (hs : List Hd) (e : En) : Bool := decide (e.kind = 2) && !(hdHost hs (foldN e.host)).isSome
def lostE (es : List En) (hs : List Hd) : List Str := (es.filter (lostQ hs)).map (·.host)
theorem am_E {l : List Le} {hs : List Hd} {x : Ixd} (hx : IxOk2 l hs x) (a : Ad) : (lkp x.am a).map (·.e) = ofE (l.map (·.e)) hs a := by
  rw [hx.am a, ofE]
  have e : ∀ o p : Option Le, (o.or p).map (·.e) = (o.map (·.e)).or (p.map (·.e)) := fun o p => by cases o <;> rfl
  rw [e]
  congr 1
  · show Option.map _ ((hdAd hs a).bind _) = _
    cases hdAd hs a with
    | none => rfl
    | some p => exact lk_E hx.ix.hm hx.ix.es _
  · rw [← hx.ix.es, List.find?_map]; rfl
theorem dm_isSome {l : List Le} {hs : List Hd} {x : Ixd} (hx : IxOk2 l hs x) (key : Str) : (lkp x.dm key).isSome = (hdHost hs key).isSome := by
  rw [hx.dm key]; show (Option.map _ (hdHost hs key)).isSome = _; cases hdHost hs key <;> rfl
theorem ads_E {l : List Le} {hs : List Hd} {x : Ixd} (hx : IxOk2 l hs x) (n : Str) : adsI x n = adsE (l.map (·.e)) hs n := by
  have h1 : (ownI x n).map (·.e) = lookN (l.map (·.e)) n := by
    unfold ownI lookN
    split
    · rfl
    · exact lk_E hx.ix.hm hx.ix.es _
  rw [adsI, adsE, ← h1]
  cases ownI x n with
  | none => rfl
  | some y =>
    show entAd y.e (heldI x y) = entAd y.e _
    rw [heldI, hx.dm]; rfl
theorem lost_E {l : List Le} {hs : List Hd} {x : Ixd} (hx : IxOk2 l hs x) : lostI x x.l = lostE (l.map (·.e)) hs := by
  rw [lostI, lostE, ← hx.ix.es, List.filter_map, List.map_map]
  have : (lostP x) = (lostQ hs ∘ fun y : Le => y.e) := funext fun y => by
    show lostP x y = lostQ hs y.e
    rw [lostP, lostQ, dm_isSome hx]
  rw [this]; rfl
theorem held_iff {es : List En} {hs : List Hd} : HeldOk es hs ↔ (∀ h ∈ hs, nameCk h.host = 0 ∧ (∃ e, lookE es (foldN h.host) = some e ∧ e.kind = 2) ∧ addrCk h.ad = 0) ∧ hs.Pairwise fun a b => foldN a.host ≠ foldN b.host ∧ a.ad ≠ b.ad := by
  constructor
  · intro H
    refine ⟨fun h hh => (held_at H hh).1, ?_⟩
    rw [List.pairwise_iff_getElem]
    intro i j hi hj hij
    have h1 := H j hj
    rw [List.getD_eq_getElem?_getD, List.getElem?_eq_getElem hj] at h1
    have hm : hs[i] ∈ hs.take j := List.mem_iff_getElem.2 ⟨i, by simp; omega, by rw [List.getElem_take]⟩
    exact ⟨h1.2.2.2.1 _ hm, h1.2.2.2.2 _ hm⟩
  · rintro ⟨h1, h2⟩ i hi
    rw [List.getD_eq_getElem?_getD, List.getElem?_eq_getElem hi]
    obtain ⟨q1, q2, q3⟩ := h1 _ (List.getElem_mem hi)
    rw [List.pairwise_iff_getElem] at h2
    have h3 : ∀ p ∈ hs.take i, foldN p.host ≠ foldN hs[i].host ∧ p.ad ≠ hs[i].ad := fun p hp => by
      obtain ⟨j, hj, rfl⟩ := List.mem_iff_getElem.1 hp
      have hj2 : j < i := by simp at hj; omega
      rw [List.getElem_take]
      exact h2 j i (by omega) hi hj2
    exact ⟨q1, q2, q3, fun p hp => (h3 p hp).1, fun p hp => (h3 p hp).2⟩
theorem held_perm {es : List En} {hs hs' : List Hd} (hp : hs'.Perm hs) (H : HeldOk es hs) : HeldOk es hs' := by
  rw [held_iff] at H ⊢
  exact ⟨fun h hh => H.1 h (hp.mem_iff.1 hh), (hp.pairwise_iff (fun h => ⟨fun e => h.1 e.symm, fun e => h.2 e.symm⟩)).2 H.2⟩
theorem find_perm {α : Type} {l l' : List α} (hp : l'.Perm l) {F : α → Bool} (hu : ∀ a ∈ l, ∀ b ∈ l, F a = true → F b = true → a = b) : l'.find? F = l.find? F := by
  cases h1 : l.find? F with
  | none =>
    rw [List.find?_eq_none] at h1 ⊢
    exact fun a ha => h1 a (hp.mem_iff.1 ha)
  | some a =>
    have ha := List.mem_of_find?_eq_some h1
    have hF := List.find?_some h1
    cases h2 : l'.find? F with
    | none => exact absurd hF (List.find?_eq_none.1 h2 a (hp.mem_iff.2 ha))
    | some b => rw [hu a ha b (hp.mem_iff.1 (List.mem_of_find?_eq_some h2)) hF (List.find?_some h2)]
theorem held_ad_perm {es : List En} {hs hs' : List Hd} (hp : hs'.Perm hs) (H : HeldOk es hs) (a : Ad) : hdAd hs' a = hdAd hs a := find_perm hp fun p hpm q hq h1 h2 => by
  have e1 : p.ad = a := of_decide_eq_true h1
  have e2 : q.ad = a := of_decide_eq_true h2
  have h3 := (held_at H hpm).2.1; have h4 := (held_at H hq).2.1
  rw [e1] at h3; rw [e2, h3] at h4
  exact Option.some.inj h4
theorem held_host_perm {es : List En} {hs hs' : List Hd} (hp : hs'.Perm hs) (H : HeldOk es hs) (key : Str) : hdHost hs' key = hdHost hs key := find_perm hp fun p hpm q hq h1 h2 => by
  have e1 : foldN p.host = key := of_decide_eq_true h1
  have e2 : foldN q.host = key := of_decide_eq_true h2
  have h3 := (held_at H hpm).2.2; have h4 := (held_at H hq).2.2
  rw [e1] at h3; rw [e2, h3] at h4
  exact Option.some.inj h4
theorem ofE_perm {es : List En} {hs hs' : List Hd} (hp : hs'.Perm hs) (H : HeldOk es hs) (a : Ad) : ofE es hs' a = ofE es hs a := by rw [ofE, ofE, held_ad_perm hp H]
theorem adsE_perm {es : List En} {hs hs' : List Hd} (hp : hs'.Perm hs) (H : HeldOk es hs) (n : Str) : adsE es hs' n = adsE es hs n := by
  unfold adsE; cases lookN es n with
  | none => rfl
  | some e => show entAd e _ = entAd e _; rw [held_host_perm hp H]
theorem lostE_perm {es : List En} {hs hs' : List Hd} (hp : hs'.Perm hs) (H : HeldOk es hs) : lostE es hs' = lostE es hs := by
  rw [lostE, lostE]
  have : lostQ hs' = lostQ hs := funext fun e => by rw [lostQ, lostQ, held_host_perm hp H]
  rw [this]
theorem opt_e {o p : Option Le} (h : o.map (·.e) = p.map (·.e)) : o.isSome = p.isSome ∧ (o.getD le0).e = (p.getD le0).e := by
  cases o <;> cases p <;> first | exact ⟨rfl, rfl⟩ | (cases h; done) | exact ⟨rfl, Option.some.inj h⟩
theorem ixE_eq {l : List Le} {hs hs' : List Hd} {o o' : Option Ixd} (h : HeldOk (l.map (·.e)) hs ↔ HeldOk (l.map (·.e)) hs') (n1 : o = none → ¬ HeldOk (l.map (·.e)) hs) (y1 : ∀ x, o = some x → HeldOk (l.map (·.e)) hs ∧ IxOk2 l hs x) (n2 : o' = none → ¬ HeldOk (l.map (·.e)) hs') (y2 : ∀ x, o' = some x → HeldOk (l.map (·.e)) hs' ∧ IxOk2 l hs' x) : ixE o = ixE o' := by
  cases o with
  | none => cases o' with
    | none => rfl
    | some x => exact absurd (h.2 (y2 x rfl).1) (n1 rfl)
  | some x => cases o' with
    | none => exact absurd (h.1 (y1 x rfl).1) (n2 rfl)
    | some y => rfl
end Go.Proofs.Ytckfjfnkombelaa
