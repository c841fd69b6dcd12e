/- Parts of slices that are read. -/
import Derived.Test.YtckfjfnkombelaaLrQO
namespace Go.Proofs.Ytckfjfnkombelaa
open Go.RowKit Go.Shelf
set_option linter.unusedVariables false

section
variable {x : Cx} {l : Fr} {L S : List Ch}
theorem rd_dropR {α : Type} {enc : α → List Value} {sz : Nat} (hE : Enc enc sz) {A : Option Addr} {c m : Nat} {xs : List α} {w : World} (h : (Ch.rd A sz enc xs).P w ∧ ∀ b, (Ch.rd A sz enc xs).ok b → b < w.heap.size) (hc : xs.length ≤ c) (hm : m ≤ xs.length) : (Ch.rd (sA A m c sz) sz enc (xs.drop m)).P w ∧ ∀ b, (Ch.rd (sA A m c sz) sz enc (xs.drop m)).ok b → b < w.heap.size := by
  refine ⟨rsP_drop hE h.1 hc hm, fun b hb => h.2 b ⟨?_, ?_⟩⟩
  · have := hb.1; simp at this; omega
  · have := hb.2
    unfold sA at this
    split at this
    · exact this
    · cases A with
      | none => exact this
      | some a =>
        rw [← this]
        show some a.block = some (Addr.add a _).block
        unfold Addr.add; split <;> rfl
theorem rd_takeR {α : Type} {enc : α → List Value} {sz : Nat} (hE : Enc enc sz) {A : Option Addr} {m : Nat} {xs : List α} {w : World} (h : (Ch.rd A sz enc xs).P w ∧ ∀ b, (Ch.rd A sz enc xs).ok b → b < w.heap.size) (hm : m ≤ xs.length) : (Ch.rd A sz enc (xs.take m)).P w ∧ ∀ b, (Ch.rd A sz enc (xs.take m)).ok b → b < w.heap.size := by
  refine ⟨rsP_take hE h.1 hm, fun b hb => h.2 b ⟨?_, hb.2⟩⟩
  have := hb.1; simp at this; omega
theorem rd_dropS {α : Type} {enc : α → List Value} {sz : Nat} (hE : Enc enc sz) {A : Option Addr} {c m : Nat} {xs : List α} {w : World} (i : Nat) (h : S[i]? = some (Ch.rd A sz enc xs)) (hm : m ≤ xs.length) (hc : xs.length ≤ c) (hw : Hp x.ok0 x.w0 L S w) : (Ch.rd (sA A m c sz) sz enc (xs.drop m)).P w ∧ ∀ b, (Ch.rd (sA A m c sz) sz enc (xs.drop m)).ok b → b < w.heap.size :=
  rd_dropR hE (hw.rdS (List.mem_of_getElem? h)) hc hm
theorem rd_takeS {α : Type} {enc : α → List Value} {sz : Nat} (hE : Enc enc sz) {A : Option Addr} {m : Nat} {xs : List α} {w : World} (i : Nat) (h : S[i]? = some (Ch.rd A sz enc xs)) (hm : m ≤ xs.length) (hw : Hp x.ok0 x.w0 L S w) : (Ch.rd A sz enc (xs.take m)).P w ∧ ∀ b, (Ch.rd A sz enc (xs.take m)).ok b → b < w.heap.size :=
  rd_takeR hE (hw.rdS (List.mem_of_getElem? h)) hm
end
section
variable {x : Cx} {C : World → Prop} {l : Fr} {L S : List Ch} {Q : Exit → Act → World → Prop} {ops : Array Oper} {fuel m : Nat} {listed : Array Bool}
theorem wu_at {t : Nat} {p : Prop} [Decidable p] (h : look l t = some (.bool (decide p))) (hp : p) (k : WU x C m ops fuel listed ((t, .bool true) :: l) L S Q) : WU x C m ops fuel listed l L S Q := wu_as (.bool true) h (by rw [decide_eq_true hp]) k
end
theorem split_at {α : Type} {l : List α} {k : Nat} (d : α) (hk : k < l.length) : l = l.take k ++ l.getD k d :: l.drop (k + 1) := by
  rw [List.getD_eq_getElem?_getD, List.getElem?_eq_getElem hk]
  show l = l.take k ++ l[k] :: l.drop (k + 1)
  rw [← List.drop_eq_getElem_cons hk, List.take_append_drop]
theorem take_succ_getD {α : Type} {l : List α} {k : Nat} (d : α) (hk : k < l.length) : l.take (k + 1) = l.take k ++ [l.getD k d] := by
  rw [List.getD_eq_getElem?_getD, List.getElem?_eq_getElem hk, List.take_succ_eq_append_getElem hk]; rfl
theorem op_cap {P : Program} {W : World} {base : Nat} {t e : TypeId} {A : Option Addr} {n c : Nat} (ht : P.underlying t = some (.slice e)) (h : Value.okWide P W .any base t (.slice A n c)) : n ≤ c := by
  unfold Value.okWide at h
  rw [ht] at h
  have h : Cell.okWide P W .any base t (.slice A n c) := h
  unfold Cell.okWide at h
  rw [ht] at h
  have h : Cell.ok P W .any base t (.slice A n c) := h
  unfold Cell.ok at h
  rw [ht] at h
  cases A with
  | some a => exact h.1
  | none =>
    by_cases q : n = 0
    · omega
    · exfalso
      cases n with
      | zero => exact q rfl
      | succ n => exact h
end Go.Proofs.Ytckfjfnkombelaa
