/- Names compared; what lies above a name: plain laws. -/
import Derived.Test.YtckfjfnkombelaaPeQO
namespace Go.Proofs.Ytckfjfnkombelaa
open Go.RowKit Go.Shelf
set_option linter.unusedVariables false
set_option linter.unusedSimpArgs false

theorem cmpS_anti : ∀ s t : Str, cmpS t s = - cmpS s t
  | [], [] => rfl
  | [], _ :: _ => rfl
  | _ :: _, [] => rfl
  | a :: r, b :: t => by
    have ih := cmpS_anti r t
    simp only [cmpS]
    by_cases h1 : a < b
    · have h2 : ¬ b < a := fun h => UInt8.lt_irrefl _ (UInt8.lt_trans h1 h)
      rw [if_pos h1, if_neg h2, if_pos h1]; rfl
    · by_cases h2 : b < a
      · rw [if_pos h2, if_neg h1, if_pos h2]
      · rw [if_neg h1, if_neg h2, if_neg h2, if_neg h1, ih]
/-- Rows of labels compared. -/
def cmpLs : List Str → List Str → Int
  | [], [] => 0
  | [], _ :: _ => -1
  | _ :: _, [] => 1
  | x :: xs, y :: ys => if cmpS (lowS x) (lowS y) ≠ 0 then cmpS (lowS x) (lowS y) else cmpLs xs ys
theorem cmpLs_anti : ∀ s t : List Str, cmpLs t s = - cmpLs s t
  | [], [] => rfl
  | [], _ :: _ => rfl
  | _ :: _, [] => rfl
  | a :: r, b :: t => by
    have ih := cmpLs_anti r t
    have h := cmpS_anti (lowS a) (lowS b)
    simp only [cmpLs]
    by_cases h1 : cmpS (lowS a) (lowS b) = 0
    · rw [if_neg (by omega), if_neg (by omega), ih]
    · rw [if_pos (by omega), if_pos h1, h]
/-- name.Compare. -/
def cmpN (a b : Str) : Int := cmpLs (labsN a).reverse (labsN b).reverse
theorem cmpN_anti (a b : Str) : cmpN b a = - cmpN a b := cmpLs_anti _ _
/-! Steps of the loops. -/
theorem cmpS_step {s t : Str} {k : Nat} (hs : k < s.length) (ht : k < t.length) : cmpS (s.drop k) (t.drop k) = if bt s k < bt t k then -1 else if bt t k < bt s k then 1 else cmpS (s.drop (k + 1)) (t.drop (k + 1)) := by
  rw [drop_getD s 0 k hs, drop_getD t 0 k ht, cmpS]
  rfl
theorem cmpS_end {s t : Str} {k : Nat} (h : k ≤ s.length ∧ k ≤ t.length) (he : k = s.length ∨ k = t.length) : cmpS (s.drop k) (t.drop k) = if s.length < t.length then -1 else if t.length < s.length then 1 else 0 := by
  rcases Nat.lt_trichotomy s.length t.length with h1 | h1 | h1
  · rw [if_pos h1]
    have : k = s.length := by omega
    rw [this, List.drop_length, drop_getD t 0 _ h1]; rfl
  · rw [if_neg (by omega), if_neg (by omega)]
    have : k = s.length := by omega
    rw [this, List.drop_length, h1, List.drop_length]; rfl
  · rw [if_neg (by omega), if_pos h1]
    have : k = t.length := by omega
    rw [this, List.drop_length, drop_getD s 0 _ h1]; rfl
theorem cmpLs_step {s t : List Str} {k : Nat} (hs : k < s.length) (ht : k < t.length) : cmpLs (s.drop k) (t.drop k) = if cmpS (lowS (s.getD k [])) (lowS (t.getD k [])) ≠ 0 then cmpS (lowS (s.getD k [])) (lowS (t.getD k [])) else cmpLs (s.drop (k + 1)) (t.drop (k + 1)) := by
  rw [drop_getD s [] k hs, drop_getD t [] k ht, cmpLs]
theorem cmpLs_end {s t : List Str} {k : Nat} (h : k ≤ s.length ∧ k ≤ t.length) (he : k = s.length ∨ k = t.length) : cmpLs (s.drop k) (t.drop k) = if s.length < t.length then -1 else if t.length < s.length then 1 else 0 := by
  rcases Nat.lt_trichotomy s.length t.length with h1 | h1 | h1
  · rw [if_pos h1]
    have : k = s.length := by omega
    rw [this, List.drop_length, drop_getD t [] _ h1]; rfl
  · rw [if_neg (by omega), if_neg (by omega)]
    have : k = s.length := by omega
    rw [this, List.drop_length, h1, List.drop_length]; rfl
  · rw [if_neg (by omega), if_pos h1]
    have : k = t.length := by omega
    rw [this, List.drop_length, drop_getD s [] _ h1]; rfl
theorem rev_getD {l : List Str} {k : Nat} (h : k < l.length) : l.reverse.getD k [] = l.getD (l.length - 1 - k) [] := by
  rw [List.getD_eq_getElem?_getD, List.getD_eq_getElem?_getD, List.getElem?_reverse h]
/-- What lies above a name: without its first label, its first two .. -/
def parsF : Nat → Str → List Str
  | 0, _ => []
  | f + 1, n => if cutOk n then rst n :: parsF f (rst n) else []
def pars (n : Str) : List Str := parsF n.length n
theorem parsF_st : ∀ (f g : Nat) (n : Str), n.length ≤ f → n.length ≤ g → parsF f n = parsF g n
  | 0, g, n, h, _ => by
    have : n = [] := List.length_eq_zero_iff.1 (by omega)
    subst this
    cases g <;> rfl
  | f + 1, 0, n, _, h => by
    have : n = [] := List.length_eq_zero_iff.1 (by omega)
    subst this
    rfl
  | f + 1, g + 1, n, hf, hg => by
    simp only [parsF]
    cases hc : cutOk n with
    | false => rfl
    | true =>
      have := rst_lt hc
      simp only [if_true]
      rw [parsF_st f g (rst n) (by omega) (by omega)]
theorem pars_eq (n : Str) : pars n = if cutOk n then rst n :: pars (rst n) else [] := by
  unfold pars
  rw [parsF_st n.length (n.length + 1) n (Nat.le_refl _) (by omega)]
  simp only [parsF]
  cases hc : cutOk n with
  | false => rfl
  | true =>
    have := rst_lt hc
    simp only [if_true]
    rw [parsF_st n.length (rst n).length (rst n) (by omega) (Nat.le_refl _)]
theorem nameCk_rst {n : Str} (h : nameCk n = 0) (hc : cutOk n = true) : nameCk (rst n) = 0 := by
  obtain ⟨h1, h2⟩ := nameCk_zero.1 h
  rw [okN_eq] at h2
  have hn : n.isEmpty = false := by cases n with
    | nil => simp [cutOk] at hc
    | cons a r => rfl
  rw [hn, hc] at h2
  have := rst_lt hc
  exact nameCk_zero.2 ⟨by omega, by simpa using h2⟩
theorem cutOk_of {n : Str} (h : nameCk n = 0) (hn : n ≠ []) : cutOk n = true := by
  have h2 := (nameCk_zero.1 h).2
  rw [okN_eq] at h2
  cases n with
  | nil => exact absurd rfl hn
  | cons a r =>
    simp only [List.isEmpty_cons, Bool.false_or, Bool.and_eq_true] at h2
    exact h2.1
theorem rst_len2 {n : Str} (hc : cutOk n = true) : (rst n).length + 2 ≤ n.length := by
  have := cutOk_iff.1 hc
  simp [rst]; omega
end Go.Proofs.Ytckfjfnkombelaa
