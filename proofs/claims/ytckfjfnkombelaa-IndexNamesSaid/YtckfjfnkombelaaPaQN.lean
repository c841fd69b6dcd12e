/- Plain laws of labels and names: no program in sight. -/
import Derived.Test.YtckfjfnkombelaaLjQN
namespace Go.Proofs.Ytckfjfnkombelaa
open Go.RowKit Go.Shelf
set_option linter.unusedVariables false
set_option linter.unusedSimpArgs false

/-- label.Check. -/
def labCk (l : Str) : Int := if l.length = 0 then 2 else if 63 < l.length then 3 else 0
def lowB (c : UInt8) : UInt8 := if 65 ≤ c.toNat ∧ c.toNat ≤ 90 then UInt8.ofNat (c.toNat + 32) else c
def lowS (s : Str) : Str := s.map lowB
/-- A first label that may be. -/
def cutOk (n : Str) : Bool := decide (n ≠ [] ∧ 1 ≤ bt n 0 ∧ bt n 0 ≤ 63 ∧ bt n 0 < n.length)
def lab (n : Str) : Str := (n.take (1 + bt n 0)).drop 1
def rst (n : Str) : Str := n.drop (1 + bt n 0)
theorem cutOk_iff {n : Str} : cutOk n = true ↔ n ≠ [] ∧ 1 ≤ bt n 0 ∧ bt n 0 ≤ 63 ∧ bt n 0 < n.length := by simp [cutOk]
theorem rst_lt {n : Str} (h : cutOk n = true) : (rst n).length < n.length := by
  have := cutOk_iff.1 h; simp [rst]; omega
theorem lab_length {n : Str} (h : cutOk n = true) : (lab n).length = bt n 0 := by
  have := cutOk_iff.1 h; simp [lab]; omega
/-- The labels ahead of what may not be. -/
def labsF : Nat → Str → List Str
  | 0, _ => []
  | f + 1, n => if cutOk n then lab n :: labsF f (rst n) else []
def labs (n : Str) : List Str := labsF n.length n
theorem labsF_st : ∀ (f g : Nat) (n : Str), n.length ≤ f → n.length ≤ g → labsF f n = labsF g n
  | 0, g, n, h, _ => by
    have : n = [] := List.length_eq_zero_iff.1 (by omega)
    subst this
    cases g <;> rfl
  | f + 1, 0, n, _, h => by
    have : n = [] := List.length_eq_zero_iff.1 (by omega)
    subst this
    rfl
  | f + 1, g + 1, n, hf, hg => by
    simp only [labsF]
    cases hc : cutOk n with
    | false => rfl
    | true =>
      have := rst_lt hc
      simp only [if_true]
      rw [labsF_st f g (rst n) (by omega) (by omega)]
theorem labs_eq (n : Str) : labs n = if cutOk n then lab n :: labs (rst n) else [] := by
  unfold labs
  rw [labsF_st n.length (n.length + 1) n (Nat.le_refl _) (by omega)]
  simp only [labsF]
  cases hc : cutOk n with
  | false => rfl
  | true =>
    have := rst_lt hc
    simp only [if_true]
    rw [labsF_st n.length (rst n).length (rst n) (by omega) (Nat.le_refl _)]
/-- May the octets be a name, but for their length? -/
def okF : Nat → Str → Bool
  | 0, n => n.isEmpty
  | f + 1, n => n.isEmpty || (cutOk n && okF f (rst n))
def okN (n : Str) : Bool := okF n.length n
theorem okF_st : ∀ (f g : Nat) (n : Str), n.length ≤ f → n.length ≤ g → okF f n = okF g n
  | 0, g, n, h, _ => by
    have : n = [] := List.length_eq_zero_iff.1 (by omega)
    subst this
    cases g <;> rfl
  | f + 1, 0, n, _, h => by
    have : n = [] := List.length_eq_zero_iff.1 (by omega)
    subst this
    rfl
  | f + 1, g + 1, n, hf, hg => by
    simp only [okF]
    cases hc : cutOk n with
    | false => rfl
    | true =>
      have := rst_lt hc
      rw [okF_st f g (rst n) (by omega) (by omega)]
theorem okN_eq (n : Str) : okN n = (n.isEmpty || (cutOk n && okN (rst n))) := by
  unfold okN
  rw [okF_st n.length (n.length + 1) n (Nat.le_refl _) (by omega)]
  simp only [okF]
  cases hc : cutOk n with
  | false => rfl
  | true =>
    have := rst_lt hc
    rw [okF_st n.length (rst n).length (rst n) (by omega) (Nat.le_refl _)]
/-- name.Check. -/
def nameCk (n : Str) : Int := if 254 < n.length then 3 else if okN n then 0 else 4
/-- Labels as octets. -/
def encn (ls : List Str) : Str := ls.flatMap fun s => UInt8.ofNat s.length :: s
theorem encn_cons (s : Str) (r : List Str) : encn (s :: r) = UInt8.ofNat s.length :: (s ++ encn r) := by simp [encn]
theorem encn_append (a b : List Str) : encn (a ++ b) = encn a ++ encn b := by simp [encn]
theorem cut_split {n : Str} (h : cutOk n = true) : n = UInt8.ofNat (lab n).length :: (lab n ++ rst n) := by
  obtain ⟨h1, h2, h3, h4⟩ := cutOk_iff.1 h
  rw [lab_length h]
  cases n with
  | nil => exact absurd rfl h1
  | cons c r =>
    have hb : bt (c :: r) 0 = c.toNat := rfl
    have hc : UInt8.ofNat (bt (c :: r) 0) = c := by rw [hb]; simp
    rw [hc]
    congr 1
    simp only [lab, rst]
    rw [Nat.add_comm 1 (bt (c :: r) 0), List.take_succ_cons, List.drop_succ_cons, List.drop_succ_cons, List.drop_zero, List.take_append_drop]
theorem okN_encn : ∀ (n : Str), okN n = true → encn (labs n) = n
  | n, h => by
    rw [okN_eq] at h
    by_cases he : n = []
    · subst he; rfl
    · have hc : cutOk n = true ∧ okN (rst n) = true := by simpa [he] using h
      have := rst_lt hc.1
      rw [labs_eq, hc.1, if_pos rfl, encn_cons, okN_encn (rst n) hc.2]
      exact (cut_split hc.1).symm
termination_by n => n.length
theorem labs_ok : ∀ (n : Str), ∀ s ∈ labs n, 1 ≤ s.length ∧ s.length ≤ 63
  | n, s, h => by
    rw [labs_eq] at h
    by_cases hc : cutOk n = true
    · have := rst_lt hc
      rw [if_pos hc] at h
      rcases List.mem_cons.1 h with rfl | h
      · have := cutOk_iff.1 hc; rw [lab_length hc]; omega
      · exact labs_ok (rst n) s h
    · rw [if_neg hc] at h; cases h
termination_by n => n.length
theorem labs_len (n : Str) : (labs n).length ≤ n.length := by
  rw [labs_eq]
  by_cases hc : cutOk n = true
  · have h1 := rst_lt hc
    have h2 := labs_len (rst n)
    rw [if_pos hc, List.length_cons]; omega
  · rw [if_neg hc]; simp
termination_by n.length
theorem cutOk_cons {s r : Str} (h : 1 ≤ s.length) (h2 : s.length ≤ 63) : cutOk (UInt8.ofNat s.length :: (s ++ r)) = true ∧ lab (UInt8.ofNat s.length :: (s ++ r)) = s ∧ rst (UInt8.ofNat s.length :: (s ++ r)) = r := by
  have hb : bt (UInt8.ofNat s.length :: (s ++ r)) 0 = s.length := by
    show (UInt8.ofNat s.length).toNat = s.length
    simp; omega
  refine ⟨cutOk_iff.2 ⟨nofun, by omega, by omega, by rw [hb]; simp; omega⟩, ?_, ?_⟩
  · simp [lab, hb, Nat.add_comm 1]
  · simp [rst, hb, Nat.add_comm 1]
theorem okN_of_encn : ∀ ls : List Str, (∀ s ∈ ls, 1 ≤ s.length ∧ s.length ≤ 63) → okN (encn ls) = true ∧ labs (encn ls) = ls
  | [], _ => ⟨rfl, rfl⟩
  | s :: r, h => by
    have hs := h s List.mem_cons_self
    obtain ⟨h1, h2⟩ := okN_of_encn r (fun t ht => h t (List.mem_cons_of_mem _ ht))
    obtain ⟨c1, c2, c3⟩ := cutOk_cons (r := encn r) hs.1 hs.2
    rw [encn_cons]
    constructor
    · rw [okN_eq, c1, c3, h1]; simp
    · rw [labs_eq, c1, c2, c3, h2]; rfl
theorem u8len {n : Nat} (h : n ≤ 63) : ((UInt8.ofNat n).toNat : Int) = n := by simp; omega
/-- name.Make. -/
def firstCk : List Str → Int
  | [] => 0
  | s :: r => if labCk s = 0 then firstCk r else labCk s
def makeN (ls : List Str) : Str × Int := if firstCk ls ≠ 0 then ([], firstCk ls) else if 254 < (encn ls).length then ([], 3) else (encn ls, 0)
theorem labCk_zero {s : Str} : labCk s = 0 ↔ 1 ≤ s.length ∧ s.length ≤ 63 := by
  unfold labCk; split
  · simp; omega
  · split
    · simp; omega
    · simp; omega
theorem firstCk_zero : ∀ {ls : List Str}, firstCk ls = 0 ↔ ∀ s ∈ ls, 1 ≤ s.length ∧ s.length ≤ 63
  | [] => by simp [firstCk]
  | s :: r => by
    have := firstCk_zero (ls := r)
    simp only [firstCk]
    by_cases h : labCk s = 0
    · rw [if_pos h, this, List.forall_mem_cons]; exact ⟨fun k => ⟨labCk_zero.1 h, k⟩, fun k => k.2⟩
    · rw [if_neg h, List.forall_mem_cons]; exact ⟨fun k => absurd k h, fun k => absurd (labCk_zero.2 k.1) h⟩
/-- name.Labels, name.Fold. -/
def labsN (n : Str) : List Str := if nameCk n = 0 then labs n else []
def foldN (n : Str) : Str := if nameCk n = 0 then lowS n else []
theorem lowS_length (s : Str) : (lowS s).length = s.length := by simp [lowS]
theorem lowB_small {c : UInt8} (h : c.toNat ≤ 63) : lowB c = c := by unfold lowB; rw [if_neg (by omega)]
theorem encn_low : ∀ ls : List Str, (∀ s ∈ ls, 1 ≤ s.length ∧ s.length ≤ 63) → encn (ls.map lowS) = lowS (encn ls)
  | [], _ => rfl
  | s :: r, h => by
    have hs := h s List.mem_cons_self
    have hc : lowB (UInt8.ofNat s.length) = UInt8.ofNat s.length := lowB_small (by simp; omega)
    rw [List.map_cons, encn_cons, encn_cons, encn_low r (fun t ht => h t (List.mem_cons_of_mem _ ht)), lowS_length]
    simp only [lowS, List.map_cons, List.map_append, hc]
theorem nameCk_zero {n : Str} : nameCk n = 0 ↔ n.length ≤ 254 ∧ okN n = true := by
  unfold nameCk; split
  · simp; omega
  · split
    · simp_all
    · simp_all
/-- What name.Make tells of the folded labels is the name folded. -/
theorem make_fold (n : Str) : (makeN ((labsN n).map lowS)).1 = foldN n := by
  unfold labsN foldN
  by_cases h : nameCk n = 0
  · rw [if_pos h, if_pos h]
    obtain ⟨h1, h2⟩ := nameCk_zero.1 h
    have hl : ∀ s ∈ (labs n).map lowS, 1 ≤ s.length ∧ s.length ≤ 63 := by
      intro s hs
      obtain ⟨t, ht, rfl⟩ := List.mem_map.1 hs
      rw [lowS_length]; exact labs_ok n t ht
    have he := encn_low (labs n) (labs_ok n)
    rw [okN_encn n h2] at he
    unfold makeN
    rw [if_neg (by simpa using firstCk_zero.2 hl), he, if_neg (by rw [lowS_length]; omega)]
  · rw [if_neg h, if_neg h]; rfl
end Go.Proofs.Ytckfjfnkombelaa
