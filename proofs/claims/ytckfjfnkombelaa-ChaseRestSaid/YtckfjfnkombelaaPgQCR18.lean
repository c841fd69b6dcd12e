/- Chains: plain laws. -/
import Derived.Test.YtckfjfnkombelaaIeQCR18
import Derived.Test.YtckfjfnkombelaaLpQCR18
namespace Go.Proofs.Ytckfjfnkombelaa
open Go.RowKit Go.Shelf
set_option linter.unusedVariables false
set_option linter.unusedSimpArgs false

/-- Names, one the alias of the one ahead; so many hops at most. -/
def tailN (G : Str → Option Str) : Nat → Str → List Str
  | 0, n => [n]
  | k + 1, n => match G n with
    | some a => n :: tailN G k a
    | none => [n]
def lastN (G : Str → Option Str) : Nat → Str → Str
  | 0, n => n
  | k + 1, n => match G n with
    | some a => lastN G k a
    | none => n
section
variable {G : Str → Option Str}
theorem tail_none {n : Str} (h : G n = none) : ∀ k, tailN G k n = [n] ∧ lastN G k n = n
  | 0 => ⟨rfl, rfl⟩
  | k + 1 => by rw [tailN, lastN, h]; exact ⟨rfl, rfl⟩
theorem tail_some {n a : Str} (h : G n = some a) (k : Nat) : tailN G (k + 1) n = n :: tailN G k a ∧ lastN G (k + 1) n = lastN G k a := by rw [tailN, lastN, h]; exact ⟨rfl, rfl⟩
theorem tail_len : ∀ (k : Nat) (n : Str), 1 ≤ (tailN G k n).length ∧ (tailN G k n).length ≤ k + 1
  | 0, n => ⟨Nat.le_refl _, Nat.le_refl _⟩
  | k + 1, n => by
    cases h : G n with
    | none => rw [(tail_none h _).1]; simp
    | some a =>
      rw [(tail_some h k).1]
      have := tail_len k a
      simp; omega
theorem tail_cons (k : Nat) (n : Str) : ∃ r, tailN G k n = n :: r := by
  cases k with
  | zero => exact ⟨[], rfl⟩
  | succ k =>
    cases h : G n with
    | none => exact ⟨[], (tail_none h _).1⟩
    | some a => exact ⟨_, (tail_some h k).1⟩
theorem tail_head (k : Nat) (n : Str) : (tailN G k n).getD 0 [] = n := by
  obtain ⟨r, e⟩ := tail_cons (G := G) k n
  rw [e]; rfl
theorem tail_drop : ∀ (k : Nat) (n : Str) (i : Nat), i < (tailN G k n).length → (tailN G k n).drop i = tailN G (k - i) ((tailN G k n).getD i []) ∧ lastN G (k - i) ((tailN G k n).getD i []) = lastN G k n
  | k, n, 0, h => by rw [tail_head]; exact ⟨rfl, rfl⟩
  | 0, n, i + 1, h => by simp [tailN] at h
  | k + 1, n, i + 1, h => by
    cases hg : G n with
    | none => rw [(tail_none hg _).1] at h; simp at h
    | some a =>
      rw [(tail_some hg k).1, (tail_some hg k).2] at *
      have := tail_drop k a i (by simpa using h)
      rw [Nat.add_sub_add_right, List.drop_succ_cons, List.getD_cons_succ]
      exact this
theorem tail_take : ∀ (j i : Nat) (n : Str), tailN G j n = (tailN G (j + i) n).take (j + 1)
  | 0, i, n => by
    obtain ⟨r, e⟩ := tail_cons (G := G) (0 + i) n
    rw [e]; rfl
  | j + 1, i, n => by
    rw [Nat.add_right_comm j 1 i]
    cases h : G n with
    | none => rw [(tail_none h _).1, (tail_none h _).1]; simp
    | some a => rw [(tail_some h _).1, (tail_some h _).1, List.take_succ_cons, ← tail_take j i a]
theorem tail_pre (j i : Nat) (n : Str) : (tailN G (j + i) n).take (tailN G j n).length = tailN G j n := by
  have e := tail_take (G := G) j i n
  have h1 : (tailN G j n).length = min (j + 1) (tailN G (j + i) n).length := by rw [e, List.length_take]
  rw [h1]
  conv => rhs; rw [e]
  rcases Nat.le_total (j + 1) (tailN G (j + i) n).length with h | h
  · rw [Nat.min_eq_left h]
  · rw [Nat.min_eq_right h, List.take_length, List.take_of_length_le h]
theorem tail_end : ∀ (j i : Nat) (n : Str), G (lastN G j n) = none → tailN G (j + i) n = tailN G j n ∧ lastN G (j + i) n = lastN G j n
  | 0, i, n, h => by
    have h : G n = none := h
    rw [(tail_none h _).1, (tail_none h _).2]; exact ⟨rfl, rfl⟩
  | j + 1, i, n, h => by
    rw [Nat.add_right_comm j 1 i]
    cases hg : G n with
    | none => rw [(tail_none hg _).1, (tail_none hg _).2, (tail_none hg _).1, (tail_none hg _).2]; exact ⟨rfl, rfl⟩
    | some a =>
      rw [(tail_some hg _).1, (tail_some hg _).2, (tail_some hg _).1, (tail_some hg _).2]
      rw [(tail_some hg _).2] at h
      have := tail_end j i a h
      exact ⟨by rw [this.1], this.2⟩
theorem last_get : ∀ (k : Nat) (n : Str), (tailN G k n).getD ((tailN G k n).length - 1) [] = lastN G k n
  | 0, n => rfl
  | k + 1, n => by
    cases h : G n with
    | none => rw [(tail_none h _).1, (tail_none h _).2]; rfl
    | some a =>
      rw [(tail_some h _).1, (tail_some h _).2, ← last_get k a]
      have := tail_len (G := G) k a
      obtain ⟨q, hq⟩ : ∃ q, (tailN G k a).length = q + 1 := ⟨(tailN G k a).length - 1, by omega⟩
      simp [hq]
theorem tail_full : ∀ (k : Nat) (n : Str), G (lastN G k n) ≠ none → (tailN G k n).length = k + 1
  | 0, n, _ => rfl
  | k + 1, n, h => by
    cases hg : G n with
    | none => rw [(tail_none hg _).2] at h; exact absurd hg h
    | some a =>
      rw [(tail_some hg _).2] at h
      rw [(tail_some hg _).1, List.length_cons, tail_full k a h]
theorem tail_step : ∀ (k : Nat) (n : Str) (i : Nat), i + 1 < (tailN G k n).length → G ((tailN G k n).getD i []) = some ((tailN G k n).getD (i + 1) [])
  | 0, n, i, h => by simp [tailN] at h
  | k + 1, n, i, h => by
    cases hg : G n with
    | none => rw [(tail_none hg _).1] at h; simp at h
    | some a =>
      rw [(tail_some hg _).1] at h ⊢
      cases i with
      | zero => rw [List.getD_cons_succ, tail_head]; exact hg
      | succ i => exact tail_step k a i (by simpa using h)
theorem tail_stop {n k : Str} {pre : List Str} (hT : tailN G 8 n = pre ++ tailN G (8 - pre.length) k) (hl : lastN G 8 n = lastN G (8 - pre.length) k) (hs : G k = none ∨ 8 ≤ pre.length) : tailN G 8 n = pre ++ [k] ∧ lastN G 8 n = k := by
  rw [hT, hl]
  rcases hs with h | h
  · rw [(tail_none h _).1, (tail_none h _).2]; exact ⟨rfl, rfl⟩
  · rw [Nat.sub_eq_zero_of_le h]; exact ⟨rfl, rfl⟩
theorem tail_go {n k a : Str} {pre : List Str} (hT : tailN G 8 n = pre ++ tailN G (8 - pre.length) k) (hl : lastN G 8 n = lastN G (8 - pre.length) k) (h : G k = some a) (hp : pre.length < 8) : tailN G 8 n = (pre ++ [k]) ++ tailN G (8 - (pre ++ [k]).length) a ∧ lastN G 8 n = lastN G (8 - (pre ++ [k]).length) a := by
  have e : 8 - pre.length = (8 - (pre ++ [k]).length) + 1 := by simp; omega
  rw [hT, hl, e, (tail_some h _).1, (tail_some h _).2]
  simp
end
/-- The alias of what is found. -/
def aliE : Option En → Option Str
  | some e => if e.kind = 3 then some e.alias else none
  | none => none
def galI (m : List (Str × Le)) (n : Str) : Option Str := aliE ((findI m n).map (·.e))
theorem gal_none {m : List (Str × Le)} {n : Str} (h : findI m n = none) : galI m n = none := by rw [galI, h]; rfl
theorem gal_other {m : List (Str × Le)} {n : Str} (h : ((findI m n).getD le0).e.kind ≠ 3) : galI m n = none := by
  rw [galI]
  cases h2 : findI m n with
  | none => rfl
  | some e => rw [h2] at h; exact if_neg h
theorem gal_yes {m : List (Str × Le)} {n : Str} (h1 : (findI m n).isSome = true) (h : ((findI m n).getD le0).e.kind = 3) : galI m n = some ((findI m n).getD le0).e.alias := by
  rw [galI]
  cases h2 : findI m n with
  | none => rw [h2] at h1; cases h1
  | some e => rw [h2] at h; exact if_pos h
/-- How a chain ends; what it ends at. -/
def stN (o : Option Le) (len : Nat) : Int := match o with
  | some x => if x.e.kind = 3 then 3 else 1
  | none => if 1 < len then 2 else 0
def enL (o : Option Le) : Le := match o with
  | some x => if x.e.kind = 3 then le0 else x
  | none => le0
def chN (m : List (Str × Le)) (n : Str) : List Str := tailN (galI m) 8 n
def chL (m : List (Str × Le)) (n : Str) : Str := lastN (galI m) 8 n
def chS (m : List (Str × Le)) (n : Str) : Int := stN (findI m (chL m n)) (chN m n).length
def chE (m : List (Str × Le)) (n : Str) : Le := enL (findI m (chL m n))
def chC (n : Nat) (A : Option Addr) (c : Nat) (st : Int) (x : Le) : List Value := .slice A n c :: .int .i64 st :: elC x
theorem st_none {o : Option Le} {len : Nat} (h : o.isSome = false) : stN o len = (if 1 < len then 2 else 0) ∧ enL o = le0 := by
  rw [none_of h]; exact ⟨rfl, rfl⟩
theorem st_other {o : Option Le} {len : Nat} (h : o.isSome = true) (h2 : (o.getD le0).e.kind ≠ 3) : stN o len = 1 ∧ enL o = o.getD le0 := by
  cases o with
  | none => cases h
  | some x => exact ⟨if_neg h2, if_neg h2⟩
theorem st_alias {o : Option Le} {len : Nat} (h : o.isSome = true) (h2 : (o.getD le0).e.kind = 3) : stN o len = 3 ∧ enL o = le0 := by
  cases o with
  | none => cases h
  | some x => exact ⟨if_pos h2, if_pos h2⟩
/-- Neighbours. -/
def pairs : List Str → List (Str × Str)
  | a :: b :: r => (a, b) :: pairs (b :: r)
  | _ => []
theorem ch_len (m : List (Str × Le)) (n : Str) : 1 ≤ (chN m n).length ∧ (chN m n).length ≤ 9 := tail_len 8 n
theorem ch_last (m : List (Str × Le)) (n : Str) : (chN m n).getD ((chN m n).length - 1) [] = chL m n := last_get 8 n
theorem gal_iff {m : List (Str × Le)} {n : Str} : galI m n = none ↔ ¬ ((findI m n).isSome = true ∧ ((findI m n).getD le0).e.kind = 3) := by
  constructor
  · rintro h ⟨h1, h2⟩
    rw [gal_yes h1 h2] at h; cases h
  · intro h
    by_cases h1 : (findI m n).isSome = true
    · exact gal_other (fun q => h ⟨h1, q⟩)
    · exact gal_none (none_of (by simpa using h1))
theorem ch_full {m : List (Str × Le)} {n : Str} (h : chS m n = 3) : (chN m n).length = 9 ∧ (findI m (chL m n)).isSome = true ∧ ((findI m (chL m n)).getD le0).e.kind = 3 := by
  have h0 : (findI m (chL m n)).isSome = true ∧ ((findI m (chL m n)).getD le0).e.kind = 3 := by
    unfold chS stN at h
    cases h3 : findI m (chL m n) with
    | none => rw [h3] at h; dsimp only at h; split at h <;> omega
    | some x =>
      rw [h3] at h; dsimp only at h
      split at h
      · exact ⟨rfl, ‹_›⟩
      · omega
  refine ⟨?_, h0⟩
  exact tail_full 8 n (fun q => gal_iff.1 q h0)
/-- From one of its names on, a chain is the rest of it. -/
theorem ch_rest {m : List (Str × Le)} {n : Str} {i : Nat} (h : i < (chN m n).length) : ((chN m n).drop i).length ≤ (chN m ((chN m n).getD i [])).length ∧ (chN m ((chN m n).getD i [])).take ((chN m n).drop i).length = (chN m n).drop i ∧
    (chS m n = 3 → chS m ((chN m n).getD i []) ≠ 0) ∧ (chS m n ≠ 3 → chN m ((chN m n).getD i []) = (chN m n).drop i ∧ chL m ((chN m n).getD i []) = chL m n) := by
  obtain ⟨k, hk⟩ : ∃ k, k = (chN m n).getD i [] := ⟨_, rfl⟩
  have hi : i ≤ 8 := by have := ch_len m n; omega
  have h1 : (chN m n).drop i = tailN (galI m) (8 - i) k ∧ lastN (galI m) (8 - i) k = chL m n := by rw [hk]; exact tail_drop 8 n i h
  rw [← hk]
  have h2 : tailN (galI m) ((8 - i) + i) k = chN m k := by rw [Nat.sub_add_cancel hi]; rfl
  have h2l : lastN (galI m) ((8 - i) + i) k = chL m k := by rw [Nat.sub_add_cancel hi]; rfl
  have h3 := tail_pre (G := galI m) (8 - i) i k
  rw [h2, ← h1.1] at h3
  refine ⟨?_, h3, fun h4 h5 => ?_, fun h4 => ?_⟩
  · have := congrArg List.length h3
    rw [List.length_take] at this; omega
  · -- it does not end at once
    have h6 := ch_full h4
    have hk1 : galI m k ≠ none := by
      by_cases e : i + 1 < (chN m n).length
      · rw [hk, show galI m ((chN m n).getD i []) = _ from tail_step 8 n i e]; simp
      · have e2 : k = chL m n := by rw [hk, ← ch_last, show (chN m n).length - 1 = i by omega]
        rw [e2]; exact fun q => gal_iff.1 q h6.2
    have h7 : 1 < (chN m k).length := by
      cases hg : galI m k with
      | none => exact absurd hg hk1
      | some a =>
        have := tail_len (G := galI m) 7 a
        rw [chN, (tail_some hg 7).1]; simp; omega
    unfold chS stN at h5
    cases h8 : findI m (chL m k) with
    | none => rw [h8] at h5; dsimp only at h5; rw [if_pos h7] at h5; cases h5
    | some x => rw [h8] at h5; dsimp only at h5; split at h5 <;> cases h5
  · have hg : galI m (lastN (galI m) (8 - i) k) = none := by
      rw [h1.2, gal_iff]
      rintro ⟨q1, q2⟩
      exact h4 (st_alias q1 q2).1
    have h5 := tail_end (G := galI m) (8 - i) i k hg
    rw [h2, h2l, h1.2] at h5
    exact ⟨h5.1.trans h1.1.symm, h5.2⟩
end Go.Proofs.Ytckfjfnkombelaa
