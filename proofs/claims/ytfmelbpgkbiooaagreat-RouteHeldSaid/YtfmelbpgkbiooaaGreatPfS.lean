import Derived.Test.YtfmelbpgkbiooaaGreatSaS
/- Names compared; what lies above a name: plain laws. -/
namespace Go.Proofs.YtfmelbpgkbiooaaGreat
open Go.RowKit Go.Shelf
set_option linter.unusedVariables false
set_option linter.unusedSimpArgs false

theorem cmpS_anti : ∀ s t : Str, cmpS t s = - cmpS s t
  | [], [] => rfl
  | [], _ :: _ => rfl
  | _ :: _, [] => rfl
  | a :: r, b :: t => by
    have ih := cmpS_anti r t
    simp only [cmpS]
    by_cases h1 : a < b
    · have h2 : ¬ b < a := fun h => UInt8.lt_irrefl _ (UInt8.lt_trans h1 h)
      rw [if_pos h1, if_neg h2, if_pos h1]; rfl
    · by_cases h2 : b < a
      · rw [if_pos h2, if_neg h1, if_pos h2]
      · rw [if_neg h1, if_neg h2, if_neg h2, if_neg h1, ih]
theorem cmpS_trans : ∀ {s t u : Str}, cmpS s t < 0 → cmpS t u < 0 → cmpS s u < 0
  | [], [], _, h, _ => by simp [cmpS] at h
  | _ :: _, [], _, h, _ => by simp [cmpS] at h
  | _, _ :: _, [], _, h => by simp [cmpS] at h
  | [], _ :: _, _ :: _, _, _ => by simp [cmpS]
  | a :: r, b :: t, c :: u, h1, h2 => by
    simp only [cmpS] at h1 h2 ⊢
    by_cases ab : a < b
    · by_cases bc : b < c
      · rw [if_pos (UInt8.lt_trans ab bc)]; decide
      · rw [if_neg bc] at h2
        by_cases cb : c < b
        · rw [if_pos cb] at h2; omega
        · have e : b = c := UInt8.le_antisymm (UInt8.not_lt.1 cb) (UInt8.not_lt.1 bc)
          subst e
          rw [if_pos ab]; decide
    · rw [if_neg ab] at h1
      by_cases ba' : b < a
      · rw [if_pos ba'] at h1; omega
      · rw [if_neg ba'] at h1
        have e : a = b := UInt8.le_antisymm (UInt8.not_lt.1 ba') (UInt8.not_lt.1 ab)
        subst e
        by_cases bc : a < c
        · rw [if_pos bc]; decide
        · rw [if_neg bc] at h2 ⊢
          by_cases cb : c < a
          · rw [if_pos cb] at h2; omega
          · rw [if_neg cb] at h2 ⊢
            exact cmpS_trans h1 h2
/-- Rows of labels compared. -/
def cmpLs : List Str → List Str → Int
  | [], [] => 0
  | [], _ :: _ => -1
  | _ :: _, [] => 1
  | x :: xs, y :: ys => if cmpS (lowS x) (lowS y) ≠ 0 then cmpS (lowS x) (lowS y) else cmpLs xs ys
theorem cmpLs_anti : ∀ s t : List Str, cmpLs t s = - cmpLs s t
  | [], [] => rfl
  | [], _ :: _ => rfl
  | _ :: _, [] => rfl
  | a :: r, b :: t => by
    have ih := cmpLs_anti r t
    have h := cmpS_anti (lowS a) (lowS b)
    simp only [cmpLs]
    by_cases h1 : cmpS (lowS a) (lowS b) = 0
    · rw [if_neg (by omega), if_neg (by omega), ih]
    · rw [if_pos (by omega), if_pos h1, h]
theorem cmpLs_zero : ∀ {s t : List Str}, cmpLs s t = 0 ↔ s.map lowS = t.map lowS
  | [], [] => by simp [cmpLs]
  | [], _ :: _ => by simp [cmpLs]
  | _ :: _, [] => by simp [cmpLs]
  | a :: r, b :: t => by
    have ih := cmpLs_zero (s := r) (t := t)
    simp only [cmpLs, List.map_cons, List.cons.injEq]
    by_cases h1 : cmpS (lowS a) (lowS b) = 0
    · rw [if_neg (by omega), ih]; simp [cmpS_zero.1 h1]
    · rw [if_pos h1]
      exact ⟨fun h => absurd h h1, fun h => absurd (cmpS_zero.2 h.1) h1⟩
theorem cmpLs_trans : ∀ {s t u : List Str}, cmpLs s t < 0 → cmpLs t u < 0 → cmpLs s u < 0
  | [], [], _, h, _ => by simp [cmpLs] at h
  | _ :: _, [], _, h, _ => by simp [cmpLs] at h
  | _, _ :: _, [], _, h => by simp [cmpLs] at h
  | [], _ :: _, _ :: _, _, _ => by simp [cmpLs]
  | a :: r, b :: t, c :: u, h1, h2 => by
    simp only [cmpLs] at h1 h2 ⊢
    by_cases ab : cmpS (lowS a) (lowS b) = 0
    · rw [if_neg (by omega)] at h1
      rw [cmpS_zero.1 ab]
      by_cases bc : cmpS (lowS b) (lowS c) = 0
      · rw [if_neg (by omega)] at h2 ⊢
        exact cmpLs_trans h1 h2
      · rw [if_pos bc] at h2 ⊢; exact h2
    · rw [if_pos ab] at h1
      by_cases bc : cmpS (lowS b) (lowS c) = 0
      · rw [← cmpS_zero.1 bc, if_pos ab]; exact h1
      · rw [if_pos bc] at h2
        have := cmpS_trans h1 h2
        rw [if_pos (by omega)]; exact this
/-- name.Compare. -/
def cmpN (a b : Str) : Int := cmpLs (labsN a).reverse (labsN b).reverse
theorem labsN_fold {n : Str} (h : nameCk n = 0) : labsN (foldN n) = (labsN n).map lowS := by
  have hf := nameCk_fold h
  have e1 : labsN n = labs n := if_pos h
  have e2 : labsN (foldN n) = labs (foldN n) := if_pos hf
  have h1 : ∀ s ∈ (labs n).map lowS, 1 ≤ s.length ∧ s.length ≤ 63 := fun s hs => by
    obtain ⟨t, ht, rfl⟩ := List.mem_map.1 hs
    rw [lowS_length]; exact labs_ok n t ht
  have h2 := (okN_of_encn _ h1).2
  rw [encn_low _ (labs_ok n), okN_encn n (nameCk_zero.1 h).2, ← foldN_eq h] at h2
  rw [e1, e2, h2]
theorem fold_labs {a b : Str} (ha : nameCk a = 0) (hb : nameCk b = 0) : foldN a = foldN b ↔ (labsN a).map lowS = (labsN b).map lowS := by
  constructor
  · intro h
    rw [← labsN_fold ha, ← labsN_fold hb, h]
  · intro h
    rw [← make_fold, ← make_fold, h]
theorem cmpN_zero {a b : Str} (ha : nameCk a = 0) (hb : nameCk b = 0) : cmpN a b = 0 ↔ foldN a = foldN b := by
  rw [cmpN, cmpLs_zero, List.map_reverse, List.map_reverse, List.reverse_inj, fold_labs ha hb]
theorem cmpN_anti (a b : Str) : cmpN b a = - cmpN a b := cmpLs_anti _ _
theorem cmpN_trans {a b c : Str} (h1 : cmpN a b < 0) (h2 : cmpN b c < 0) : cmpN a c < 0 := cmpLs_trans h1 h2
/-! Steps of the loops. -/
theorem cmpS_step {s t : Str} {k : Nat} (hs : k < s.length) (ht : k < t.length) : cmpS (s.drop k) (t.drop k) = if bt s k < bt t k then -1 else if bt t k < bt s k then 1 else cmpS (s.drop (k + 1)) (t.drop (k + 1)) := by
  rw [drop_getD s 0 k hs, drop_getD t 0 k ht, cmpS]
  rfl
theorem cmpS_end {s t : Str} {k : Nat} (h : k ≤ s.length ∧ k ≤ t.length) (he : k = s.length ∨ k = t.length) : cmpS (s.drop k) (t.drop k) = if s.length < t.length then -1 else if t.length < s.length then 1 else 0 := by
  rcases Nat.lt_trichotomy s.length t.length with h1 | h1 | h1
  · rw [if_pos h1]
    have : k = s.length := by omega
    rw [this, List.drop_length, drop_getD t 0 _ h1]; rfl
  · rw [if_neg (by omega), if_neg (by omega)]
    have : k = s.length := by omega
    rw [this, List.drop_length, h1, List.drop_length]; rfl
  · rw [if_neg (by omega), if_pos h1]
    have : k = t.length := by omega
    rw [this, List.drop_length, drop_getD s 0 _ h1]; rfl
theorem cmpLs_step {s t : List Str} {k : Nat} (hs : k < s.length) (ht : k < t.length) : cmpLs (s.drop k) (t.drop k) = if cmpS (lowS (s.getD k [])) (lowS (t.getD k [])) ≠ 0 then cmpS (lowS (s.getD k [])) (lowS (t.getD k [])) else cmpLs (s.drop (k + 1)) (t.drop (k + 1)) := by
  rw [drop_getD s [] k hs, drop_getD t [] k ht, cmpLs]
theorem cmpLs_end {s t : List Str} {k : Nat} (h : k ≤ s.length ∧ k ≤ t.length) (he : k = s.length ∨ k = t.length) : cmpLs (s.drop k) (t.drop k) = if s.length < t.length then -1 else if t.length < s.length then 1 else 0 := by
  rcases Nat.lt_trichotomy s.length t.length with h1 | h1 | h1
  · rw [if_pos h1]
    have : k = s.length := by omega
    rw [this, List.drop_length, drop_getD t [] _ h1]; rfl
  · rw [if_neg (by omega), if_neg (by omega)]
    have : k = s.length := by omega
    rw [this, List.drop_length, h1, List.drop_length]; rfl
  · rw [if_neg (by omega), if_pos h1]
    have : k = t.length := by omega
    rw [this, List.drop_length, drop_getD s [] _ h1]; rfl
theorem rev_getD {l : List Str} {k : Nat} (h : k < l.length) : l.reverse.getD k [] = l.getD (l.length - 1 - k) [] := by
  rw [List.getD_eq_getElem?_getD, List.getD_eq_getElem?_getD, List.getElem?_reverse h]
end Go.Proofs.YtfmelbpgkbiooaaGreat
