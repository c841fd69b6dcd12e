/- Search: plain laws. -/
import Derived.Test.YtckfjfnkombelaaPcQN
import Derived.Test.YtckfjfnkombelaaCeQN
namespace Go.Proofs.Ytckfjfnkombelaa
open Go.RowKit Go.Shelf
set_option linter.unusedVariables false
set_option linter.unusedSimpArgs false

/-- A search. -/
structure Sr where
  ndots : Int
  doms : List Str
def domsCk : List Str → Int
  | [] => 0
  | d :: r => if nameCk d ≠ 0 then nameCk d else domsCk r
theorem domsCk_zero : ∀ {l : List Str}, domsCk l = 0 ↔ ∀ d ∈ l, nameCk d = 0
  | [] => by simp [domsCk]
  | d :: r => by
    rw [domsCk]
    by_cases h : nameCk d ≠ 0
    · rw [if_pos h]; simp [h]
    · rw [if_neg h, domsCk_zero]
      have : nameCk d = 0 := by omega
      simp [this]
def srCk (s : Sr) : Int := if 6 < s.doms.length then 3 else if domsCk s.doms ≠ 0 then domsCk s.doms else if ([] : Str) ∈ s.doms ∨ s.ndots < 0 ∨ 15 < s.ndots then 2 else 0
theorem srCk_zero {s : Sr} (h : srCk s = 0) : s.doms.length ≤ 6 ∧ (∀ d ∈ s.doms, nameCk d = 0 ∧ d ≠ []) ∧ 0 ≤ s.ndots ∧ s.ndots ≤ 15 := by
  unfold srCk at h
  split at h
  · omega
  · split at h
    · omega
    · rename_i h1 h2
      split at h
      · omega
      · rename_i h3
        have h4 := domsCk_zero.1 (show domsCk s.doms = 0 by omega)
        refine ⟨by omega, fun d hd => ⟨h4 d hd, fun e => h3 (.inl (e ▸ hd))⟩, ?_, ?_⟩
        · by_cases q : 0 ≤ s.ndots
          · exact q
          · exact absurd (.inr (.inl (by omega))) h3
        · by_cases q : s.ndots ≤ 15
          · exact q
          · exact absurd (.inr (.inr (by omega))) h3
/-- name.Join. -/
def joinE (a b : Str) : Int := if nameCk a ≠ 0 then nameCk a else if nameCk b ≠ 0 then nameCk b else if 254 < a.length + b.length then 3 else 0
def joinN (a b : Str) : Str := if joinE a b = 0 then a ++ b else []
theorem joinE_zero {a b : Str} : joinE a b = 0 ↔ nameCk a = 0 ∧ nameCk b = 0 ∧ a.length + b.length ≤ 254 := by
  unfold joinE
  by_cases h1 : nameCk a = 0
  · by_cases h2 : nameCk b = 0
    · rw [if_neg (by omega), if_neg (by omega)]
      by_cases h3 : 254 < a.length + b.length
      · rw [if_pos h3]; simp; omega
      · rw [if_neg h3]; simp [h1, h2]; omega
    · rw [if_neg (by omega), if_pos h2]; simp [h1, h2]
  · rw [if_pos h1]; simp [h1]
theorem okN_append {a b : Str} (ha : okN a = true) (hb : okN b = true) : okN (a ++ b) = true := by
  have h := (okN_of_encn (labs a ++ labs b) (fun s hs => (List.mem_append.1 hs).elim (labs_ok a s) (labs_ok b s))).1
  rw [encn_append, okN_encn a ha, okN_encn b hb] at h
  exact h
theorem nameCk_append {a b : Str} (h : joinE a b = 0) : nameCk (a ++ b) = 0 := by
  obtain ⟨h1, h2, h3⟩ := joinE_zero.1 h
  exact nameCk_zero.2 ⟨by rw [List.length_append]; omega, okN_append (nameCk_zero.1 h1).2 (nameCk_zero.1 h2).2⟩
theorem foldN_eq {n : Str} (h : nameCk n = 0) : foldN n = lowS n := if_pos h
theorem foldN_len {n : Str} (h : nameCk n = 0) : (foldN n).length = n.length := by rw [foldN_eq h, lowS_length]
/-- The domains joined. -/
def joins (n : Str) (l : List Str) : List Str := (l.filter fun d => decide (joinE n d = 0)).map fun d => n ++ d
def ownS (s : Sr) (n : Str) : Prop := n = [] ∨ s.ndots ≤ ((labsN n).length : Int) - 1
instance (s : Sr) (n : Str) : Decidable (ownS s n) := by unfold ownS; infer_instance
/-- The candidates, some of them twice. -/
def cands (s : Sr) (n : Str) : List Str := if n = [] then [n] else if ownS s n then n :: joins n s.doms else joins n s.doms ++ [n]
/-- Each once. -/
def ded : List Str → List Str → List Str
  | _, [] => []
  | seen, x :: r => if foldN x ∈ seen then ded seen r else x :: ded (foldN x :: seen) r
def eachS (s : Sr) (n : Str) : List Str := if srCk s ≠ 0 ∨ nameCk n ≠ 0 then [] else ded [] (cands s n)
theorem ded_mem {x : Str} : ∀ {seen l : List Str}, x ∈ ded seen l → x ∈ l ∧ foldN x ∉ seen
  | _, [], h => by cases h
  | seen, y :: r, h => by
    rw [ded] at h
    split at h
    · have := ded_mem h; exact ⟨.tail _ this.1, this.2⟩
    · rcases List.mem_cons.1 h with rfl | h
      · exact ⟨.head _, ‹_›⟩
      · have := ded_mem h
        exact ⟨.tail _ this.1, fun q => this.2 (.tail _ q)⟩
theorem ded_dis : ∀ (seen l : List Str), (ded seen l).Pairwise fun x y => foldN x ≠ foldN y
  | _, [] => .nil
  | seen, y :: r => by
    rw [ded]
    split
    · exact ded_dis seen r
    · exact .cons (fun z hz e => (ded_mem hz).2 (e ▸ .head _)) (ded_dis _ r)
theorem ded_len : ∀ (seen l : List Str), (ded seen l).length ≤ l.length
  | _, [] => Nat.le_refl _
  | seen, y :: r => by
    rw [ded]
    split
    · have := ded_len seen r; simp; omega
    · have := ded_len (foldN y :: seen) r; simp; omega
/-- What has been seen behind a part. -/
def dedS : List Str → List Str → List Str
  | seen, [] => seen
  | seen, x :: r => if foldN x ∈ seen then dedS seen r else dedS (foldN x :: seen) r
theorem ded_append : ∀ (seen a b : List Str), ded seen (a ++ b) = ded seen a ++ ded (dedS seen a) b
  | _, [], _ => rfl
  | seen, y :: r, b => by
    rw [List.cons_append, ded, ded, dedS]
    split
    · exact ded_append seen r b
    · rw [ded_append _ r b]; rfl
theorem dedS_mem {k : Str} : ∀ {seen l : List Str}, k ∈ dedS seen l ↔ k ∈ seen ∨ ∃ x ∈ l, foldN x = k
  | seen, [] => by simp [dedS]
  | seen, y :: r => by
    rw [dedS]
    split
    · rw [dedS_mem]
      constructor
      · rintro (h | ⟨x, hx, e⟩)
        · exact .inl h
        · exact .inr ⟨x, .tail _ hx, e⟩
      · rintro (h | ⟨x, hx, e⟩)
        · exact .inl h
        · rcases List.mem_cons.1 hx with rfl | hx
          · exact .inl (e ▸ ‹_›)
          · exact .inr ⟨x, hx, e⟩
    · rw [dedS_mem]
      constructor
      · rintro (h | ⟨x, hx, e⟩)
        · rcases List.mem_cons.1 h with rfl | h
          · exact .inr ⟨y, .head _, rfl⟩
          · exact .inl h
        · exact .inr ⟨x, .tail _ hx, e⟩
      · rintro (h | ⟨x, hx, e⟩)
        · exact .inl (.tail _ h)
        · rcases List.mem_cons.1 hx with rfl | hx
          · exact .inl (e ▸ .head _)
          · exact .inr ⟨x, hx, e⟩
theorem joins_mem {n x : Str} {l : List Str} : x ∈ joins n l ↔ ∃ d ∈ l, joinE n d = 0 ∧ x = n ++ d := by
  simp only [joins, List.mem_map, List.mem_filter, decide_eq_true_eq]
  constructor
  · rintro ⟨d, ⟨h1, h2⟩, rfl⟩; exact ⟨d, h1, h2, rfl⟩
  · rintro ⟨d, h1, h2, rfl⟩; exact ⟨d, ⟨h1, h2⟩, rfl⟩
theorem joins_len (n : Str) (l : List Str) : (joins n l).length ≤ l.length := by
  rw [joins, List.length_map]; exact List.length_filter_le _ _
theorem join_ne {n d : Str} (h : joinE n d = 0) (hd : d ≠ []) : foldN (n ++ d) ≠ foldN n := fun e => by
  obtain ⟨h1, h2, h3⟩ := joinE_zero.1 h
  have e2 := congrArg List.length e
  rw [foldN_len (nameCk_append h), foldN_len h1, List.length_append] at e2
  exact hd (List.length_eq_zero_iff.1 (by omega))
theorem cands_mem {s : Sr} {n x : Str} (h : x ∈ cands s n) : x = n ∨ x ∈ joins n s.doms := by
  unfold cands at h
  split at h
  · left; simpa using h
  · split at h
    · simpa using h
    · rcases List.mem_append.1 h with h | h
      · exact .inr h
      · left; simpa using h
theorem cands_len (s : Sr) (n : Str) : (cands s n).length ≤ s.doms.length + 1 := by
  have := joins_len n s.doms
  unfold cands
  split
  · simp
  · split
    · simp; omega
    · simp; omega
/-- Of a search and a name that may be. -/
structure Ok (s : Sr) (n : Str) : Prop where
  s0 : srCk s = 0
  n0 : nameCk n = 0
theorem Ok.each {s : Sr} {n : Str} (h : Ok s n) : eachS s n = ded [] (cands s n) := by
  rw [eachS, if_neg (by rw [h.s0, h.n0]; simp)]
theorem Ok.joinNe {s : Sr} {n x : Str} (h : Ok s n) (hx : x ∈ joins n s.doms) : foldN x ≠ foldN n := by
  obtain ⟨d, hd, he, rfl⟩ := joins_mem.1 hx
  exact join_ne he ((srCk_zero h.s0).2.1 d hd).2
theorem Ok.xck {s : Sr} {n x : Str} (h : Ok s n) (hx : x ∈ cands s n) : nameCk x = 0 := by
  rcases cands_mem hx with rfl | hx
  · exact h.n0
  · obtain ⟨d, hd, he, rfl⟩ := joins_mem.1 hx
    exact nameCk_append he
theorem Ok.each_own {s : Sr} {n : Str} (h : Ok s n) (ho : ownS s n) : ∃ r, eachS s n = n :: r := by
  rw [h.each, cands]
  split
  · exact ⟨[], rfl⟩
  · first | (rw [if_pos ho]; exact ⟨_, rfl⟩) | exact ⟨_, rfl⟩
theorem Ok.each_last {s : Sr} {n : Str} (h : Ok s n) (ho : ¬ ownS s n) : eachS s n = ded [] (joins n s.doms) ++ [n] := by
  have hn : n ≠ [] := fun e => ho (.inl e)
  rw [h.each, cands, if_neg hn, if_neg ho, ded_append]
  congr 1
  rw [ded, if_neg]
  · rfl
  · rw [dedS_mem]
    rintro (h1 | ⟨x, hx, e⟩)
    · cases h1
    · exact h.joinNe hx e
theorem Ok.mem {s : Sr} {n : Str} (h : Ok s n) : n ∈ eachS s n := by
  by_cases ho : ownS s n
  · obtain ⟨r, e⟩ := h.each_own ho
    rw [e]; exact .head _
  · rw [h.each_last ho]; simp
theorem Ok.xs {s : Sr} {n x : Str} (h : Ok s n) (hx : x ∈ eachS s n) : nameCk x = 0 ∧ (x = n ∨ ∃ d ∈ s.doms, joinE n d = 0 ∧ x = n ++ d) := by
  rw [h.each] at hx
  have h1 := (ded_mem hx).1
  exact ⟨h.xck h1, (cands_mem h1).imp id joins_mem.1⟩
theorem Ok.dis {s : Sr} {n : Str} (h : Ok s n) : (eachS s n).Pairwise fun x y => foldN x ≠ foldN y := by
  rw [h.each]; exact ded_dis _ _
theorem Ok.len {s : Sr} {n : Str} (h : Ok s n) : (eachS s n).length ≤ s.doms.length + 1 := by
  rw [h.each]
  have h1 := ded_len [] (cands s n)
  have h2 := cands_len s n
  omega
/-! Letters. -/
theorem nameCk_fold {n : Str} (h : nameCk n = 0) : nameCk (foldN n) = 0 := by rw [foldN_eq h]; exact nameCk_low h
end Go.Proofs.Ytckfjfnkombelaa
