import Derived.Test.YtnpdgmoeoidppaaLsQc
/- Regions with open order whose states are met more than once. -/
namespace Go.Proofs.Ytnpdgmoeoidppaa
open Go.RowKit Go.Shelf
set_option linter.unusedVariables false
theorem kn2_sub {l' : Fr} : ∀ {seen : List Nat} {l : Fr}, (∀ t v, look l t = some v → seen.elem t = false → look l' t = some v) → Kn2 l' seen l
  | seen, [], _ => by rw [Kn2]; trivial
  | seen, (t, v) :: r, h => by
    rw [Kn2]
    cases hs : seen.elem t with
    | true => exact kn2_sub fun t' v' ht hs' => h t' v' (by
        simp only [look]
        cases e : Nat.beq t t' with
        | true => rw [← Nat.eq_of_beq_eq_true e, hs] at hs'; cases hs'
        | false => exact ht) hs'
    | false =>
      refine ⟨h t v (by simp only [look]; rw [show Nat.beq t t = true from Nat.beq_refl t]) hs, kn2_sub fun t' v' ht hs' => h t' v' ?_ ?_⟩
      · simp only [look]
        cases e : Nat.beq t t' with
        | true => rw [← Nat.eq_of_beq_eq_true e] at hs'; simp at hs'
        | false => exact ht
      · revert hs'; simp only [List.elem_cons]; cases t' == t <;> simp
theorem bx {l : Fr} : Kn2 l [] l := kn2_sub fun _ _ h _ => h
section
variable {x : Cx} {C : World → Prop} {l : Fr} {L S : List Ch} {Q : Exit → Act → World → Prop} {ops : Array Oper} {fuel m : Nat} {listed : Array Bool}
theorem cA {L' S' : List Ch} (hs : ∀ w, Hp x.ok0 x.w0 L S w → Hp x.ok0 x.w0 L' S' w) (h : WU x C m ops fuel listed l L' S' Q) : WU x C m ops fuel listed l L S Q := fun a w ha hw => h a w ha (hs w hw)
theorem bn {listed' : Array Bool} (hl : listed = listed') (h : WU x C m ops fuel listed' l L S Q) : WU x C m ops fuel listed l L S Q := hl ▸ h
theorem wu_fr {l' : Fr} (h : WU x C m ops fuel listed l L S Q) (hk : Kn2 l' [] l) : WU x C m ops fuel listed l' L S Q := fun a w ha hw => h a w (ha.mono fun t v ht => hk.look t v ht rfl) hw
theorem wu_k0 (lst : Array Bool) (fl : Nat) {lf : Fr} {Lf : List Ch} (k : (∀ (l' : Fr), Kn2 l' [] (lf) → WU x C m ops fl lst l' (Lf) S Q) → WU x C m ops fuel listed l L S Q) (h : WU x C m ops fl lst (lf) (Lf) S Q) : WU x C m ops fuel listed l L S Q := k fun l' hk => wu_fr (h) hk
theorem ft {α0 : Type} (lst : Array Bool) (fl : Nat) {lf : α0 → Fr} {Lf : α0 → List Ch} (k : (∀ (a0 : α0) (l' : Fr), Kn2 l' [] (lf a0) → WU x C m ops fl lst l' (Lf a0) S Q) → WU x C m ops fuel listed l L S Q) (h : ∀ (a0 : α0) , WU x C m ops fl lst (lf a0) (Lf a0) S Q) : WU x C m ops fuel listed l L S Q := k fun a0 l' hk => wu_fr (h a0) hk
theorem eO {α0 α1 : Type} (lst : Array Bool) (fl : Nat) {lf : α0 → α1 → Fr} {Lf : α0 → α1 → List Ch} (k : (∀ (a0 : α0) (a1 : α1) (l' : Fr), Kn2 l' [] (lf a0 a1) → WU x C m ops fl lst l' (Lf a0 a1) S Q) → WU x C m ops fuel listed l L S Q) (h : ∀ (a0 : α0) (a1 : α1) , WU x C m ops fl lst (lf a0 a1) (Lf a0 a1) S Q) : WU x C m ops fuel listed l L S Q := k fun a0 a1 l' hk => wu_fr (h a0 a1) hk
theorem fP {α0 α1 α2 : Type} (lst : Array Bool) (fl : Nat) {lf : α0 → α1 → α2 → Fr} {Lf : α0 → α1 → α2 → List Ch} (k : (∀ (a0 : α0) (a1 : α1) (a2 : α2) (l' : Fr), Kn2 l' [] (lf a0 a1 a2) → WU x C m ops fl lst l' (Lf a0 a1 a2) S Q) → WU x C m ops fuel listed l L S Q) (h : ∀ (a0 : α0) (a1 : α1) (a2 : α2) , WU x C m ops fl lst (lf a0 a1 a2) (Lf a0 a1 a2) S Q) : WU x C m ops fuel listed l L S Q := k fun a0 a1 a2 l' hk => wu_fr (h a0 a1 a2) hk
theorem wu_k4 {α0 α1 α2 α3 : Type} (lst : Array Bool) (fl : Nat) {lf : α0 → α1 → α2 → α3 → Fr} {Lf : α0 → α1 → α2 → α3 → List Ch} (k : (∀ (a0 : α0) (a1 : α1) (a2 : α2) (a3 : α3) (l' : Fr), Kn2 l' [] (lf a0 a1 a2 a3) → WU x C m ops fl lst l' (Lf a0 a1 a2 a3) S Q) → WU x C m ops fuel listed l L S Q) (h : ∀ (a0 : α0) (a1 : α1) (a2 : α2) (a3 : α3) , WU x C m ops fl lst (lf a0 a1 a2 a3) (Lf a0 a1 a2 a3) S Q) : WU x C m ops fuel listed l L S Q := k fun a0 a1 a2 a3 l' hk => wu_fr (h a0 a1 a2 a3) hk
theorem wu_k6 {α0 α1 α2 α3 α4 α5 : Type} (lst : Array Bool) (fl : Nat) {lf : α0 → α1 → α2 → α3 → α4 → α5 → Fr} {Lf : α0 → α1 → α2 → α3 → α4 → α5 → List Ch} (k : (∀ (a0 : α0) (a1 : α1) (a2 : α2) (a3 : α3) (a4 : α4) (a5 : α5) (l' : Fr), Kn2 l' [] (lf a0 a1 a2 a3 a4 a5) → WU x C m ops fl lst l' (Lf a0 a1 a2 a3 a4 a5) S Q) → WU x C m ops fuel listed l L S Q) (h : ∀ (a0 : α0) (a1 : α1) (a2 : α2) (a3 : α3) (a4 : α4) (a5 : α5) , WU x C m ops fl lst (lf a0 a1 a2 a3 a4 a5) (Lf a0 a1 a2 a3 a4 a5) S Q) : WU x C m ops fuel listed l L S Q := k fun a0 a1 a2 a3 a4 a5 l' hk => wu_fr (h a0 a1 a2 a3 a4 a5) hk
theorem wu_k7 {α0 α1 α2 α3 α4 α5 α6 : Type} (lst : Array Bool) (fl : Nat) {lf : α0 → α1 → α2 → α3 → α4 → α5 → α6 → Fr} {Lf : α0 → α1 → α2 → α3 → α4 → α5 → α6 → List Ch} (k : (∀ (a0 : α0) (a1 : α1) (a2 : α2) (a3 : α3) (a4 : α4) (a5 : α5) (a6 : α6) (l' : Fr), Kn2 l' [] (lf a0 a1 a2 a3 a4 a5 a6) → WU x C m ops fl lst l' (Lf a0 a1 a2 a3 a4 a5 a6) S Q) → WU x C m ops fuel listed l L S Q) (h : ∀ (a0 : α0) (a1 : α1) (a2 : α2) (a3 : α3) (a4 : α4) (a5 : α5) (a6 : α6) , WU x C m ops fl lst (lf a0 a1 a2 a3 a4 a5 a6) (Lf a0 a1 a2 a3 a4 a5 a6) S Q) : WU x C m ops fuel listed l L S Q := k fun a0 a1 a2 a3 a4 a5 a6 l' hk => wu_fr (h a0 a1 a2 a3 a4 a5 a6) hk
end
end Go.Proofs.Ytnpdgmoeoidppaa
