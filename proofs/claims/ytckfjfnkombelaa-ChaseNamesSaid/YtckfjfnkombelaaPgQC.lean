/- Chains: plain laws. -/
import Derived.Test.YtckfjfnkombelaaIeQC
import Derived.Test.YtckfjfnkombelaaLpQC
namespace Go.Proofs.Ytckfjfnkombelaa
open Go.RowKit Go.Shelf
set_option linter.unusedVariables false
set_option linter.unusedSimpArgs false

/-- Names, one the alias of the one ahead; so many hops at most. -/
def tailN (G : Str → Option Str) : Nat → Str → List Str
  | 0, n => [n]
  | k + 1, n => match G n with
    | some a => n :: tailN G k a
    | none => [n]
def lastN (G : Str → Option Str) : Nat → Str → Str
  | 0, n => n
  | k + 1, n => match G n with
    | some a => lastN G k a
    | none => n
section
variable {G : Str → Option Str}
theorem tail_none {n : Str} (h : G n = none) : ∀ k, tailN G k n = [n] ∧ lastN G k n = n
  | 0 => ⟨rfl, rfl⟩
  | k + 1 => by rw [tailN, lastN, h]; exact ⟨rfl, rfl⟩
theorem tail_some {n a : Str} (h : G n = some a) (k : Nat) : tailN G (k + 1) n = n :: tailN G k a ∧ lastN G (k + 1) n = lastN G k a := by rw [tailN, lastN, h]; exact ⟨rfl, rfl⟩
theorem tail_len : ∀ (k : Nat) (n : Str), 1 ≤ (tailN G k n).length ∧ (tailN G k n).length ≤ k + 1
  | 0, n => ⟨Nat.le_refl _, Nat.le_refl _⟩
  | k + 1, n => by
    cases h : G n with
    | none => rw [(tail_none h _).1]; simp
    | some a =>
      rw [(tail_some h k).1]
      have := tail_len k a
      simp; omega
theorem tail_cons (k : Nat) (n : Str) : ∃ r, tailN G k n = n :: r := by
  cases k with
  | zero => exact ⟨[], rfl⟩
  | succ k =>
    cases h : G n with
    | none => exact ⟨[], (tail_none h _).1⟩
    | some a => exact ⟨_, (tail_some h k).1⟩
theorem tail_head (k : Nat) (n : Str) : (tailN G k n).getD 0 [] = n := by
  obtain ⟨r, e⟩ := tail_cons (G := G) k n
  rw [e]; rfl
theorem last_get : ∀ (k : Nat) (n : Str), (tailN G k n).getD ((tailN G k n).length - 1) [] = lastN G k n
  | 0, n => rfl
  | k + 1, n => by
    cases h : G n with
    | none => rw [(tail_none h _).1, (tail_none h _).2]; rfl
    | some a =>
      rw [(tail_some h _).1, (tail_some h _).2, ← last_get k a]
      have := tail_len (G := G) k a
      obtain ⟨q, hq⟩ : ∃ q, (tailN G k a).length = q + 1 := ⟨(tailN G k a).length - 1, by omega⟩
      simp [hq]
theorem tail_full : ∀ (k : Nat) (n : Str), G (lastN G k n) ≠ none → (tailN G k n).length = k + 1
  | 0, n, _ => rfl
  | k + 1, n, h => by
    cases hg : G n with
    | none => rw [(tail_none hg _).2] at h; exact absurd hg h
    | some a =>
      rw [(tail_some hg _).2] at h
      rw [(tail_some hg _).1, List.length_cons, tail_full k a h]
theorem tail_step : ∀ (k : Nat) (n : Str) (i : Nat), i + 1 < (tailN G k n).length → G ((tailN G k n).getD i []) = some ((tailN G k n).getD (i + 1) [])
  | 0, n, i, h => by simp [tailN] at h
  | k + 1, n, i, h => by
    cases hg : G n with
    | none => rw [(tail_none hg _).1] at h; simp at h
    | some a =>
      rw [(tail_some hg _).1] at h ⊢
      cases i with
      | zero => rw [List.getD_cons_succ, tail_head]; exact hg
      | succ i => exact tail_step k a i (by simpa using h)
theorem tail_stop {n k : Str} {pre : List Str} (hT : tailN G 8 n = pre ++ tailN G (8 - pre.length) k) (hl : lastN G 8 n = lastN G (8 - pre.length) k) (hs : G k = none ∨ 8 ≤ pre.length) : tailN G 8 n = pre ++ [k] ∧ lastN G 8 n = k := by
  rw [hT, hl]
  rcases hs with h | h
  · rw [(tail_none h _).1, (tail_none h _).2]; exact ⟨rfl, rfl⟩
  · rw [Nat.sub_eq_zero_of_le h]; exact ⟨rfl, rfl⟩
theorem tail_go {n k a : Str} {pre : List Str} (hT : tailN G 8 n = pre ++ tailN G (8 - pre.length) k) (hl : lastN G 8 n = lastN G (8 - pre.length) k) (h : G k = some a) (hp : pre.length < 8) : tailN G 8 n = (pre ++ [k]) ++ tailN G (8 - (pre ++ [k]).length) a ∧ lastN G 8 n = lastN G (8 - (pre ++ [k]).length) a := by
  have e : 8 - pre.length = (8 - (pre ++ [k]).length) + 1 := by simp; omega
  rw [hT, hl, e, (tail_some h _).1, (tail_some h _).2]
  simp
end
/-- The alias of what is found. -/
def aliE : Option En → Option Str
  | some e => if e.kind = 3 then some e.alias else none
  | none => none
def galI (m : List (Str × Le)) (n : Str) : Option Str := aliE ((findI m n).map (·.e))
theorem gal_none {m : List (Str × Le)} {n : Str} (h : findI m n = none) : galI m n = none := by rw [galI, h]; rfl
theorem gal_other {m : List (Str × Le)} {n : Str} (h : ((findI m n).getD le0).e.kind ≠ 3) : galI m n = none := by
  rw [galI]
  cases h2 : findI m n with
  | none => rfl
  | some e => rw [h2] at h; exact if_neg h
theorem gal_yes {m : List (Str × Le)} {n : Str} (h1 : (findI m n).isSome = true) (h : ((findI m n).getD le0).e.kind = 3) : galI m n = some ((findI m n).getD le0).e.alias := by
  rw [galI]
  cases h2 : findI m n with
  | none => rw [h2] at h1; cases h1
  | some e => rw [h2] at h; exact if_pos h
/-- How a chain ends; what it ends at. -/
def stN (o : Option Le) (len : Nat) : Int := match o with
  | some x => if x.e.kind = 3 then 3 else 1
  | none => if 1 < len then 2 else 0
def enL (o : Option Le) : Le := match o with
  | some x => if x.e.kind = 3 then le0 else x
  | none => le0
def chN (m : List (Str × Le)) (n : Str) : List Str := tailN (galI m) 8 n
def chL (m : List (Str × Le)) (n : Str) : Str := lastN (galI m) 8 n
def chS (m : List (Str × Le)) (n : Str) : Int := stN (findI m (chL m n)) (chN m n).length
def chE (m : List (Str × Le)) (n : Str) : Le := enL (findI m (chL m n))
def chC (n : Nat) (A : Option Addr) (c : Nat) (st : Int) (x : Le) : List Value := .slice A n c :: .int .i64 st :: elC x
theorem st_none {o : Option Le} {len : Nat} (h : o.isSome = false) : stN o len = (if 1 < len then 2 else 0) ∧ enL o = le0 := by
  rw [none_of h]; exact ⟨rfl, rfl⟩
theorem st_other {o : Option Le} {len : Nat} (h : o.isSome = true) (h2 : (o.getD le0).e.kind ≠ 3) : stN o len = 1 ∧ enL o = o.getD le0 := by
  cases o with
  | none => cases h
  | some x => exact ⟨if_neg h2, if_neg h2⟩
theorem st_alias {o : Option Le} {len : Nat} (h : o.isSome = true) (h2 : (o.getD le0).e.kind = 3) : stN o len = 3 ∧ enL o = le0 := by
  cases o with
  | none => cases h
  | some x => exact ⟨if_pos h2, if_pos h2⟩
/-- Neighbours. -/
def pairs : List Str → List (Str × Str)
  | a :: b :: r => (a, b) :: pairs (b :: r)
  | _ => []
def encP (p : Str × Str) : List Value := [.string (ba p.1), .string (ba p.2)]
theorem pairs_len : ∀ l : List Str, (pairs l).length = l.length - 1
  | [] => rfl
  | [a] => rfl
  | a :: b :: r => by
    have := pairs_len (b :: r)
    simp [pairs, this]
theorem pairs_get : ∀ (l : List Str) (i : Nat), i + 1 < l.length → (pairs l)[i]? = some (l.getD i [], l.getD (i + 1) [])
  | [], i, h => by simp at h
  | [a], i, h => by simp at h
  | a :: b :: r, 0, h => rfl
  | a :: b :: r, i + 1, h => by
    have := pairs_get (b :: r) i (by simpa using h)
    simpa [pairs] using this
theorem pairs_split {l : List Str} {i : Nat} (h : i + 1 < l.length) : pairs l = (pairs l).take i ++ (l.getD i [], l.getD (i + 1) []) :: (pairs l).drop (i + 1) := by
  have h2 := pairs_get l i h
  obtain ⟨h3, h4⟩ := List.getElem?_eq_some_iff.1 h2
  rw [← h4, ← List.drop_eq_getElem_cons h3, List.take_append_drop]
theorem pairs_take {l : List Str} {i : Nat} (h : i + 1 < l.length) : (pairs l).take (i + 1) = (pairs l).take i ++ [(l.getD i [], l.getD (i + 1) [])] := by
  have h2 := pairs_get l i h
  obtain ⟨h3, h4⟩ := List.getElem?_eq_some_iff.1 h2
  rw [List.take_add_one, h2]; rfl
/-- A hop's record. -/
def hopO (o : Option En) (a b : Str) : List Rc := match o with
  | some e => if e.kind = 3 then [⟨a, 5, 1, e.ttl, { dt0 with name := b }⟩] else []
  | none => []
def hopsO (F : Str → Option En) (l : List Str) : List Rc := (pairs l).flatMap fun p => hopO (F p.1) p.1 p.2
def hopI (m : List (Str × Le)) (p : Str × Str) : List Rc := hopO ((findI m p.1).map (·.e)) p.1 p.2
def hopsI (m : List (Str × Le)) (l : List Str) : List Rc := (pairs l).flatMap (hopI m)
theorem hop_yes {m : List (Str × Le)} {p : Str × Str} (h : (findI m p.1).isSome = true) (h2 : ((findI m p.1).getD le0).e.kind = 3) : hopI m p = [⟨p.1, 5, 1, ((findI m p.1).getD le0).e.ttl, { dt0 with name := p.2 }⟩] := by
  rw [hopI]
  cases h3 : findI m p.1 with
  | none => rw [h3] at h; cases h
  | some x => rw [h3] at h2; exact if_pos h2
theorem hop_no {m : List (Str × Le)} {p : Str × Str} (h : (findI m p.1).isSome = false ∨ ((findI m p.1).getD le0).e.kind ≠ 3) : hopI m p = [] := by
  rw [hopI]
  cases h3 : findI m p.1 with
  | none => rfl
  | some x => rw [h3] at h; exact if_neg (h.resolve_left nofun)
theorem hops_len {m : List (Str × Le)} {q : List (Str × Str)} : (q.flatMap (hopI m)).length ≤ q.length := by
  induction q with
  | nil => simp
  | cons p r ih =>
    rw [List.flatMap_cons, List.length_append, List.length_cons]
    have : (hopI m p).length ≤ 1 := by
      rw [hopI]
      cases (findI m p.1).map (·.e) with
      | none => simp [hopO]
      | some e => unfold hopO; dsimp only; split <;> simp
    omega
theorem flat_one {α β : Type} {f : α → List β} {g : α → β} : ∀ {l : List α}, (∀ x ∈ l, f x = [g x]) → l.flatMap f = l.map g
  | [], _ => rfl
  | x :: r, h => by
    rw [List.flatMap_cons, h x (.head _), flat_one (fun y hy => h y (.tail _ hy))]; rfl
def hopR (m : List (Str × Le)) (p : Str × Str) : Rc := ⟨p.1, 5, 1, ((findI m p.1).getD le0).e.ttl, { dt0 with name := p.2 }⟩
theorem gal_inv {m : List (Str × Le)} {a b : Str} (h : galI m a = some b) : (findI m a).isSome = true ∧ ((findI m a).getD le0).e.kind = 3 ∧ ((findI m a).getD le0).e.alias = b := by
  rw [galI] at h
  cases h3 : findI m a with
  | none => rw [h3] at h; cases h
  | some x =>
    rw [h3] at h
    have h : (if x.e.kind = 3 then some x.e.alias else none) = some b := h
    split at h
    · exact ⟨rfl, ‹_›, Option.some.inj h⟩
    · cases h
/-- The hops of a chain that was followed: one for each name but the last. -/
theorem hops_chain (m : List (Str × Le)) (n : Str) : hopsI m (chN m n) = (pairs (chN m n)).map (hopR m) := by
  refine flat_one fun p hp => ?_
  obtain ⟨i, hi, rfl⟩ := List.mem_iff_getElem.1 hp
  have hl := pairs_len (chN m n)
  have h1 := pairs_get (chN m n) i (by omega)
  rw [List.getElem?_eq_getElem hi] at h1
  rw [Option.some.inj h1]
  have h2 := gal_inv (tail_step (G := galI m) 8 n i (by show i + 1 < (chN m n).length; omega))
  exact hop_yes h2.1 h2.2.1
theorem hops_chain_len (m : List (Str × Le)) (n : Str) : (hopsI m (chN m n)).length = (chN m n).length - 1 := by
  rw [hops_chain, List.length_map, pairs_len]
/-- What is found does not hang on letters. -/
theorem find_fold {m : List (Str × Le)} {n : Str} (h : nameCk n = 0) : findI m (foldN n) = findI m n := by
  rw [findI, findI, if_neg (by rw [nameCk_fold h]; decide), if_neg (by rw [h]; decide), foldN_idem h]
theorem chain_fold {m : List (Str × Le)} {n : Str} (h : nameCk n = 0) : (chN m (foldN n)).drop 1 = (chN m n).drop 1 ∧ ((chN m n).length = 1 ∧ chL m n = n ∧ chL m (foldN n) = foldN n ∨ 1 < (chN m n).length ∧ chL m (foldN n) = chL m n) ∧ findI m (chL m (foldN n)) = findI m (chL m n) := by
  have hg : galI m (foldN n) = galI m n := by rw [galI, galI, find_fold h]
  cases h1 : galI m n with
  | none =>
    rw [h1] at hg
    have e1 := tail_none hg 8
    have e2 := tail_none h1 8
    rw [chN, chN, chL, chL, e1.1, e1.2, e2.1, e2.2]
    exact ⟨rfl, .inl ⟨rfl, rfl, rfl⟩, find_fold h⟩
  | some a =>
    rw [h1] at hg
    have e1 := tail_some hg 7
    have e2 := tail_some h1 7
    have hl := tail_len (G := galI m) 7 a
    rw [chN, chN, chL, chL, e1.1, e1.2, e2.1, e2.2]
    exact ⟨rfl, .inr ⟨by simp; omega, rfl⟩, rfl⟩
theorem chain_fold_len {m : List (Str × Le)} {n : Str} (h : nameCk n = 0) : (chN m (foldN n)).length = (chN m n).length := by
  have h1 := congrArg List.length (chain_fold (m := m) h).1
  have h2 := (tail_len (G := galI m) 8 n).1
  have h3 := (tail_len (G := galI m) 8 (foldN n)).1
  simp only [List.length_drop] at h1
  unfold chN at *
  omega
theorem ch_head (m : List (Str × Le)) (n : Str) : (chN m n).getD 0 [] = n := tail_head 8 n
theorem ch_len (m : List (Str × Le)) (n : Str) : 1 ≤ (chN m n).length ∧ (chN m n).length ≤ 9 := tail_len 8 n
theorem ch_last (m : List (Str × Le)) (n : Str) : (chN m n).getD ((chN m n).length - 1) [] = chL m n := last_get 8 n
theorem ch_step {m : List (Str × Le)} {n : Str} {i : Nat} (h : i + 1 < (chN m n).length) : (findI m ((chN m n).getD i [])).isSome = true ∧ ((findI m ((chN m n).getD i [])).getD le0).e.kind = 3 ∧ ((findI m ((chN m n).getD i [])).getD le0).e.alias = (chN m n).getD (i + 1) [] := gal_inv (tail_step 8 n i h)
theorem gal_iff {m : List (Str × Le)} {n : Str} : galI m n = none ↔ ¬ ((findI m n).isSome = true ∧ ((findI m n).getD le0).e.kind = 3) := by
  constructor
  · rintro h ⟨h1, h2⟩
    rw [gal_yes h1 h2] at h; cases h
  · intro h
    by_cases h1 : (findI m n).isSome = true
    · exact gal_other (fun q => h ⟨h1, q⟩)
    · exact gal_none (none_of (by simpa using h1))
theorem ch_full {m : List (Str × Le)} {n : Str} (h : chS m n = 3) : (chN m n).length = 9 ∧ (findI m (chL m n)).isSome = true ∧ ((findI m (chL m n)).getD le0).e.kind = 3 := by
  have h0 : (findI m (chL m n)).isSome = true ∧ ((findI m (chL m n)).getD le0).e.kind = 3 := by
    unfold chS stN at h
    cases h3 : findI m (chL m n) with
    | none => rw [h3] at h; dsimp only at h; split at h <;> omega
    | some x =>
      rw [h3] at h; dsimp only at h
      split at h
      · exact ⟨rfl, ‹_›⟩
      · omega
  refine ⟨?_, h0⟩
  exact tail_full 8 n (fun q => gal_iff.1 q h0)
end Go.Proofs.Ytckfjfnkombelaa
