/- Chains: plain laws. -/
import Derived.Test.YtckfjfnkombelaaGreatIeQC
import Derived.Test.YtckfjfnkombelaaGreatLpQC
namespace Go.Proofs.YtckfjfnkombelaaGreat
open Go.RowKit Go.Shelf
set_option linter.unusedVariables false
set_option linter.unusedSimpArgs false

/-- Names, one the alias of the one ahead; so many hops at most. -/
def tailN (G : Str → Option Str) : Nat → Str → List Str
  | 0, n => [n]
  | k + 1, n => match G n with
    | some a => n :: tailN G k a
    | none => [n]
def lastN (G : Str → Option Str) : Nat → Str → Str
  | 0, n => n
  | k + 1, n => match G n with
    | some a => lastN G k a
    | none => n
section
variable {G : Str → Option Str}
theorem tail_none {n : Str} (h : G n = none) : ∀ k, tailN G k n = [n] ∧ lastN G k n = n
  | 0 => ⟨rfl, rfl⟩
  | k + 1 => by rw [tailN, lastN, h]; exact ⟨rfl, rfl⟩
theorem tail_some {n a : Str} (h : G n = some a) (k : Nat) : tailN G (k + 1) n = n :: tailN G k a ∧ lastN G (k + 1) n = lastN G k a := by rw [tailN, lastN, h]; exact ⟨rfl, rfl⟩
theorem tail_len : ∀ (k : Nat) (n : Str), 1 ≤ (tailN G k n).length ∧ (tailN G k n).length ≤ k + 1
  | 0, n => ⟨Nat.le_refl _, Nat.le_refl _⟩
  | k + 1, n => by
    cases h : G n with
    | none => rw [(tail_none h _).1]; simp
    | some a =>
      rw [(tail_some h k).1]
      have := tail_len k a
      simp; omega
theorem tail_stop {n k : Str} {pre : List Str} (hT : tailN G 8 n = pre ++ tailN G (8 - pre.length) k) (hl : lastN G 8 n = lastN G (8 - pre.length) k) (hs : G k = none ∨ 8 ≤ pre.length) : tailN G 8 n = pre ++ [k] ∧ lastN G 8 n = k := by
  rw [hT, hl]
  rcases hs with h | h
  · rw [(tail_none h _).1, (tail_none h _).2]; exact ⟨rfl, rfl⟩
  · rw [Nat.sub_eq_zero_of_le h]; exact ⟨rfl, rfl⟩
theorem tail_go {n k a : Str} {pre : List Str} (hT : tailN G 8 n = pre ++ tailN G (8 - pre.length) k) (hl : lastN G 8 n = lastN G (8 - pre.length) k) (h : G k = some a) (hp : pre.length < 8) : tailN G 8 n = (pre ++ [k]) ++ tailN G (8 - (pre ++ [k]).length) a ∧ lastN G 8 n = lastN G (8 - (pre ++ [k]).length) a := by
  have e : 8 - pre.length = (8 - (pre ++ [k]).length) + 1 := by simp; omega
  rw [hT, hl, e, (tail_some h _).1, (tail_some h _).2]
  simp
end
/-- The alias of what is found. -/
def aliE : Option En → Option Str
  | some e => if e.kind = 3 then some e.alias else none
  | none => none
def galI (m : List (Str × Le)) (n : Str) : Option Str := aliE ((findI m n).map (·.e))
theorem gal_none {m : List (Str × Le)} {n : Str} (h : findI m n = none) : galI m n = none := by rw [galI, h]; rfl
theorem gal_other {m : List (Str × Le)} {n : Str} (h : ((findI m n).getD le0).e.kind ≠ 3) : galI m n = none := by
  rw [galI]
  cases h2 : findI m n with
  | none => rfl
  | some e => rw [h2] at h; exact if_neg h
theorem gal_yes {m : List (Str × Le)} {n : Str} (h1 : (findI m n).isSome = true) (h : ((findI m n).getD le0).e.kind = 3) : galI m n = some ((findI m n).getD le0).e.alias := by
  rw [galI]
  cases h2 : findI m n with
  | none => rw [h2] at h1; cases h1
  | some e => rw [h2] at h; exact if_pos h
/-- How a chain ends; what it ends at. -/
def stN (o : Option Le) (len : Nat) : Int := match o with
  | some x => if x.e.kind = 3 then 3 else 1
  | none => if 1 < len then 2 else 0
def enL (o : Option Le) : Le := match o with
  | some x => if x.e.kind = 3 then le0 else x
  | none => le0
def chN (m : List (Str × Le)) (n : Str) : List Str := tailN (galI m) 8 n
def chL (m : List (Str × Le)) (n : Str) : Str := lastN (galI m) 8 n
def chS (m : List (Str × Le)) (n : Str) : Int := stN (findI m (chL m n)) (chN m n).length
def chE (m : List (Str × Le)) (n : Str) : Le := enL (findI m (chL m n))
def chC (n : Nat) (A : Option Addr) (c : Nat) (st : Int) (x : Le) : List Value := .slice A n c :: .int .i64 st :: elC x
theorem st_none {o : Option Le} {len : Nat} (h : o.isSome = false) : stN o len = (if 1 < len then 2 else 0) ∧ enL o = le0 := by
  rw [none_of h]; exact ⟨rfl, rfl⟩
theorem st_other {o : Option Le} {len : Nat} (h : o.isSome = true) (h2 : (o.getD le0).e.kind ≠ 3) : stN o len = 1 ∧ enL o = o.getD le0 := by
  cases o with
  | none => cases h
  | some x => exact ⟨if_neg h2, if_neg h2⟩
theorem st_alias {o : Option Le} {len : Nat} (h : o.isSome = true) (h2 : (o.getD le0).e.kind = 3) : stN o len = 3 ∧ enL o = le0 := by
  cases o with
  | none => cases h
  | some x => exact ⟨if_pos h2, if_pos h2⟩
/-- Neighbours. -/
def pairs : List Str → List (Str × Str)
  | a :: b :: r => (a, b) :: pairs (b :: r)
  | _ => []
def encP (p : Str × Str) : List Value := [.string (ba p.1), .string (ba p.2)]
theorem pairs_len : ∀ l : List Str, (pairs l).length = l.length - 1
  | [] => rfl
  | [a] => rfl
  | a :: b :: r => by
    have := pairs_len (b :: r)
    simp [pairs, this]
theorem pairs_get : ∀ (l : List Str) (i : Nat), i + 1 < l.length → (pairs l)[i]? = some (l.getD i [], l.getD (i + 1) [])
  | [], i, h => by simp at h
  | [a], i, h => by simp at h
  | a :: b :: r, 0, h => rfl
  | a :: b :: r, i + 1, h => by
    have := pairs_get (b :: r) i (by simpa using h)
    simpa [pairs] using this
theorem pairs_split {l : List Str} {i : Nat} (h : i + 1 < l.length) : pairs l = (pairs l).take i ++ (l.getD i [], l.getD (i + 1) []) :: (pairs l).drop (i + 1) := by
  have h2 := pairs_get l i h
  obtain ⟨h3, h4⟩ := List.getElem?_eq_some_iff.1 h2
  rw [← h4, ← List.drop_eq_getElem_cons h3, List.take_append_drop]
theorem pairs_take {l : List Str} {i : Nat} (h : i + 1 < l.length) : (pairs l).take (i + 1) = (pairs l).take i ++ [(l.getD i [], l.getD (i + 1) [])] := by
  have h2 := pairs_get l i h
  obtain ⟨h3, h4⟩ := List.getElem?_eq_some_iff.1 h2
  rw [List.take_add_one, h2]; rfl
/-- A hop's record. -/
def hopO (o : Option En) (a b : Str) : List Rc := match o with
  | some e => if e.kind = 3 then [⟨a, 5, 1, e.ttl, { dt0 with name := b }⟩] else []
  | none => []
def hopsO (F : Str → Option En) (l : List Str) : List Rc := (pairs l).flatMap fun p => hopO (F p.1) p.1 p.2
def hopI (m : List (Str × Le)) (p : Str × Str) : List Rc := hopO ((findI m p.1).map (·.e)) p.1 p.2
def hopsI (m : List (Str × Le)) (l : List Str) : List Rc := (pairs l).flatMap (hopI m)
theorem hop_yes {m : List (Str × Le)} {p : Str × Str} (h : (findI m p.1).isSome = true) (h2 : ((findI m p.1).getD le0).e.kind = 3) : hopI m p = [⟨p.1, 5, 1, ((findI m p.1).getD le0).e.ttl, { dt0 with name := p.2 }⟩] := by
  rw [hopI]
  cases h3 : findI m p.1 with
  | none => rw [h3] at h; cases h
  | some x => rw [h3] at h2; exact if_pos h2
theorem hop_no {m : List (Str × Le)} {p : Str × Str} (h : (findI m p.1).isSome = false ∨ ((findI m p.1).getD le0).e.kind ≠ 3) : hopI m p = [] := by
  rw [hopI]
  cases h3 : findI m p.1 with
  | none => rfl
  | some x => rw [h3] at h; exact if_neg (h.resolve_left nofun)
theorem hops_len {m : List (Str × Le)} {q : List (Str × Str)} : (q.flatMap (hopI m)).length ≤ q.length := by
  induction q with
  | nil => simp
  | cons p r ih =>
    rw [List.flatMap_cons, List.length_append, List.length_cons]
    have : (hopI m p).length ≤ 1 := by
      rw [hopI]
      cases (findI m p.1).map (·.e) with
      | none => simp [hopO]
      | some e => unfold hopO; dsimp only; split <;> simp
    omega
theorem ch_len (m : List (Str × Le)) (n : Str) : 1 ≤ (chN m n).length ∧ (chN m n).length ≤ 9 := tail_len 8 n
end Go.Proofs.YtckfjfnkombelaaGreat
