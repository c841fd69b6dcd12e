import Derived.Test.YtnpdgmoeoidppaaGreatCmQh
import Derived.Test.YtnpdgmoeoidppaaGreatLlQh
import Derived.OrdersIn
import Derived.Laws.Externs
/- Search: plain laws. -/
namespace Go.Proofs.YtnpdgmoeoidppaaGreat
open Go.RowKit Go.Shelf
set_option linter.unusedVariables false
set_option linter.unusedSimpArgs false

/-- A search. -/
structure Sr where
  ndots : Int
  doms : List aX
def f5 : List aX → Int
  | [] => 0
  | d :: r => if bg d ≠ 0 then bg d else f5 r
theorem domsCk_zero : ∀ {l : List aX}, f5 l = 0 ↔ ∀ d ∈ l, bg d = 0
  | [] => by simp [f5]
  | d :: r => by
    rw [f5]
    by_cases h : bg d ≠ 0
    · rw [if_pos h]; simp [h]
    · rw [if_neg h, domsCk_zero]
      have : bg d = 0 := by omega
      simp [this]
def srCk (s : Sr) : Int := if 6 < s.doms.length then 3 else if f5 s.doms ≠ 0 then f5 s.doms else if ([] : aX) ∈ s.doms ∨ s.ndots < 0 ∨ 15 < s.ndots then 2 else 0
theorem srCk_zero {s : Sr} (h : srCk s = 0) : s.doms.length ≤ 6 ∧ (∀ d ∈ s.doms, bg d = 0 ∧ d ≠ []) ∧ 0 ≤ s.ndots ∧ s.ndots ≤ 15 := by
  unfold srCk at h
  split at h
  · omega
  · split at h
    · omega
    · rename_i h1 h2
      split at h
      · omega
      · rename_i h3
        have h4 := domsCk_zero.1 (show f5 s.doms = 0 by omega)
        refine ⟨by omega, fun d hd => ⟨h4 d hd, fun e => h3 (.inl (e ▸ hd))⟩, ?_, ?_⟩
        · by_cases q : 0 ≤ s.ndots
          · exact q
          · exact absurd (.inr (.inl (by omega))) h3
        · by_cases q : s.ndots ≤ 15
          · exact q
          · exact absurd (.inr (.inr (by omega))) h3
/-- name.Join. -/
def joinE (a b : aX) : Int := if bg a ≠ 0 then bg a else if bg b ≠ 0 then bg b else if 254 < a.length + b.length then 3 else 0
theorem joinE_zero {a b : aX} : joinE a b = 0 ↔ bg a = 0 ∧ bg b = 0 ∧ a.length + b.length ≤ 254 := by
  unfold joinE
  by_cases h1 : bg a = 0
  · by_cases h2 : bg b = 0
    · rw [if_neg (by omega), if_neg (by omega)]
      by_cases h3 : 254 < a.length + b.length
      · rw [if_pos h3]; simp; omega
      · rw [if_neg h3]; simp [h1, h2]; omega
    · rw [if_neg (by omega), if_pos h2]; simp [h1, h2]
  · rw [if_pos h1]; simp [h1]
theorem okN_append {a b : aX} (ha : gn a = true) (hb : gn b = true) : gn (a ++ b) = true := by
  have h := (fx (dG a ++ dG b) (fun s hs => (List.mem_append.1 hs).elim (dX a s) (dX b s))).1
  rw [dQ, eE a ha, eE b hb] at h
  exact h
theorem fW {a b : aX} (h : joinE a b = 0) : bg (a ++ b) = 0 := by
  obtain ⟨h1, h2, h3⟩ := joinE_zero.1 h
  exact nameCk_zero.2 ⟨by rw [List.length_append]; omega, okN_append (nameCk_zero.1 h1).2 (nameCk_zero.1 h2).2⟩
theorem foldN_eq {n : aX} (h : bg n = 0) : aY n = db n := if_pos h
theorem foldN_len {n : aX} (h : bg n = 0) : (aY n).length = n.length := by rw [foldN_eq h, cJ]
/-- The domains joined. -/
def fV (n : aX) (l : List aX) : List aX := (l.filter fun d => decide (joinE n d = 0)).map fun d => n ++ d
def ownS (s : Sr) (n : aX) : Prop := n = [] ∨ s.ndots ≤ ((bD n).length : Int) - 1
instance (s : Sr) (n : aX) : Decidable (ownS s n) := by unfold ownS; infer_instance
/-- The candidates, some of them twice. -/
def fX (s : Sr) (n : aX) : List aX := if n = [] then [n] else if ownS s n then n :: fV n s.doms else fV n s.doms ++ [n]
/-- Each once. -/
def ded : List aX → List aX → List aX
  | _, [] => []
  | seen, x :: r => if aY x ∈ seen then ded seen r else x :: ded (aY x :: seen) r
def eachS (s : Sr) (n : aX) : List aX := if srCk s ≠ 0 ∨ bg n ≠ 0 then [] else ded [] (fX s n)
theorem ded_mem {x : aX} : ∀ {seen l : List aX}, x ∈ ded seen l → x ∈ l ∧ aY x ∉ seen
  | _, [], h => by cases h
  | seen, y :: r, h => by
    rw [ded] at h
    split at h
    · have := ded_mem h; exact ⟨.tail _ this.1, this.2⟩
    · rcases List.mem_cons.1 h with rfl | h
      · exact ⟨.head _, ‹_›⟩
      · have := ded_mem h
        exact ⟨.tail _ this.1, fun q => this.2 (.tail _ q)⟩
theorem ded_len : ∀ (seen l : List aX), (ded seen l).length ≤ l.length
  | _, [] => Nat.le_refl _
  | seen, y :: r => by
    rw [ded]
    split
    · have := ded_len seen r; simp; omega
    · have := ded_len (aY y :: seen) r; simp; omega
/-- What has been seen behind a part. -/
def dedS : List aX → List aX → List aX
  | seen, [] => seen
  | seen, x :: r => if aY x ∈ seen then dedS seen r else dedS (aY x :: seen) r
theorem gi : ∀ (seen a b : List aX), ded seen (a ++ b) = ded seen a ++ ded (dedS seen a) b
  | _, [], _ => rfl
  | seen, y :: r, b => by
    rw [List.cons_append, ded, ded, dedS]
    split
    · exact gi seen r b
    · rw [gi _ r b]; rfl
theorem dedS_mem {k : aX} : ∀ {seen l : List aX}, k ∈ dedS seen l ↔ k ∈ seen ∨ ∃ x ∈ l, aY x = k
  | seen, [] => by simp [dedS]
  | seen, y :: r => by
    rw [dedS]
    split
    · rw [dedS_mem]
      constructor
      · rintro (h | ⟨x, hx, e⟩)
        · exact .inl h
        · exact .inr ⟨x, .tail _ hx, e⟩
      · rintro (h | ⟨x, hx, e⟩)
        · exact .inl h
        · rcases List.mem_cons.1 hx with rfl | hx
          · exact .inl (e ▸ ‹_›)
          · exact .inr ⟨x, hx, e⟩
    · rw [dedS_mem]
      constructor
      · rintro (h | ⟨x, hx, e⟩)
        · rcases List.mem_cons.1 h with rfl | h
          · exact .inr ⟨y, .head _, rfl⟩
          · exact .inl h
        · exact .inr ⟨x, .tail _ hx, e⟩
      · rintro (h | ⟨x, hx, e⟩)
        · exact .inl (.tail _ h)
        · rcases List.mem_cons.1 hx with rfl | hx
          · exact .inl (e ▸ .head _)
          · exact .inr ⟨x, hx, e⟩
theorem joins_mem {n x : aX} {l : List aX} : x ∈ fV n l ↔ ∃ d ∈ l, joinE n d = 0 ∧ x = n ++ d := by
  simp only [fV, List.mem_map, List.mem_filter, decide_eq_true_eq]
  constructor
  · rintro ⟨d, ⟨h1, h2⟩, rfl⟩; exact ⟨d, h1, h2, rfl⟩
  · rintro ⟨d, h1, h2, rfl⟩; exact ⟨d, ⟨h1, h2⟩, rfl⟩
theorem joins_len (n : aX) (l : List aX) : (fV n l).length ≤ l.length := by
  rw [fV, List.length_map]; exact List.length_filter_le _ _
theorem join_ne {n d : aX} (h : joinE n d = 0) (hd : d ≠ []) : aY (n ++ d) ≠ aY n := fun e => by
  obtain ⟨h1, h2, h3⟩ := joinE_zero.1 h
  have e2 := congrArg List.length e
  rw [foldN_len (fW h), foldN_len h1, List.length_append] at e2
  exact hd (List.length_eq_zero_iff.1 (by omega))
theorem cands_mem {s : Sr} {n x : aX} (h : x ∈ fX s n) : x = n ∨ x ∈ fV n s.doms := by
  unfold fX at h
  split at h
  · left; simpa using h
  · split at h
    · simpa using h
    · rcases List.mem_append.1 h with h | h
      · exact .inr h
      · left; simpa using h
theorem cands_len (s : Sr) (n : aX) : (fX s n).length ≤ s.doms.length + 1 := by
  have := joins_len n s.doms
  unfold fX
  split
  · simp
  · split
    · simp; omega
    · simp; omega
/-- Of a search and a name that may be. -/
structure Ok (s : Sr) (n : aX) : Prop where
  s0 : srCk s = 0
  n0 : bg n = 0
theorem Ok.each {s : Sr} {n : aX} (h : Ok s n) : eachS s n = ded [] (fX s n) := by
  rw [eachS, if_neg (by rw [h.s0, h.n0]; simp)]
theorem Ok.joinNe {s : Sr} {n x : aX} (h : Ok s n) (hx : x ∈ fV n s.doms) : aY x ≠ aY n := by
  obtain ⟨d, hd, he, rfl⟩ := joins_mem.1 hx
  exact join_ne he ((srCk_zero h.s0).2.1 d hd).2
theorem Ok.xck {s : Sr} {n x : aX} (h : Ok s n) (hx : x ∈ fX s n) : bg x = 0 := by
  rcases cands_mem hx with rfl | hx
  · exact h.n0
  · obtain ⟨d, hd, he, rfl⟩ := joins_mem.1 hx
    exact fW he
theorem Ok.each_own {s : Sr} {n : aX} (h : Ok s n) (ho : ownS s n) : ∃ r, eachS s n = n :: r := by
  rw [h.each, fX]
  split
  · exact ⟨[], rfl⟩
  · first | (rw [if_pos ho]; exact ⟨_, rfl⟩) | exact ⟨_, rfl⟩
theorem Ok.each_last {s : Sr} {n : aX} (h : Ok s n) (ho : ¬ ownS s n) : eachS s n = ded [] (fV n s.doms) ++ [n] := by
  have hn : n ≠ [] := fun e => ho (.inl e)
  rw [h.each, fX, if_neg hn, if_neg ho, gi]
  congr 1
  rw [ded, if_neg]
  · rfl
  · rw [dedS_mem]
    rintro (h1 | ⟨x, hx, e⟩)
    · cases h1
    · exact h.joinNe hx e
theorem Ok.mem {s : Sr} {n : aX} (h : Ok s n) : n ∈ eachS s n := by
  by_cases ho : ownS s n
  · obtain ⟨r, e⟩ := h.each_own ho
    rw [e]; exact .head _
  · rw [h.each_last ho]; simp
theorem Ok.xs {s : Sr} {n x : aX} (h : Ok s n) (hx : x ∈ eachS s n) : bg x = 0 ∧ (x = n ∨ ∃ d ∈ s.doms, joinE n d = 0 ∧ x = n ++ d) := by
  rw [h.each] at hx
  have h1 := (ded_mem hx).1
  exact ⟨h.xck h1, (cands_mem h1).imp id joins_mem.1⟩
theorem Ok.len {s : Sr} {n : aX} (h : Ok s n) : (eachS s n).length ≤ s.doms.length + 1 := by
  rw [h.each]
  have h1 := ded_len [] (fX s n)
  have h2 := cands_len s n
  omega
/-! Letters. -/
theorem nameCk_fold {n : aX} (h : bg n = 0) : bg (aY n) = 0 := by rw [foldN_eq h]; exact nameCk_low h
theorem Ok.fold {s : Sr} {n : aX} (h : Ok s n) : Ok s (aY n) := ⟨h.s0, nameCk_fold h.n0⟩
end Go.Proofs.YtnpdgmoeoidppaaGreat

/- Lists of entries: where each lies; chunks of chunks that are read. -/
namespace Go.Proofs.YtnpdgmoeoidppaaGreat
open Go.RowKit Go.Shelf
set_option linter.unusedVariables false
set_option linter.unusedSimpArgs false

/-- Chunks that are read, each of them; they may share blocks. -/
def Ch.rall (L : List Ch) : Ch := ⟨fun b => ∃ c ∈ L, c.ok b, fun w => ∀ c ∈ L, c.P w, fun w w' h hk c hc => c.st w w' (h c hc) fun b hb => hk b ⟨c, hc, hb⟩⟩
theorem rd_all {L : List Ch} {c : Ch} {w : World} (h : (Ch.rall L).P w ∧ ∀ b, (Ch.rall L).ok b → b < w.heap.size) (hc : c ∈ L) : c.P w ∧ ∀ b, c.ok b → b < w.heap.size := ⟨h.1 c hc, fun b hb => h.2 b ⟨c, hc, hb⟩⟩
theorem gF {L : List Ch} {w : World} (h : Rd L w) : (Ch.rall L).P w ∧ ∀ b, (Ch.rall L).ok b → b < w.heap.size := ⟨fun c hc => (h c hc).1, fun b ⟨c, hc, hb⟩ => (h c hc).2 b hb⟩
/-- An entry and where its slices lie. -/
structure Le where
  e : En
  A : Option Addr
  c : Nat
  B : Option Addr
  d : Nat
def en0 : En := ⟨[], 0, [], [], [], [], 0⟩
def le0 : Le := ⟨en0, none, 0, none, 0⟩
theorem sl_rs {A : Option Addr} {n c : Nat} {e : TypeId} {sz : Nat} {cs : List Value} {w : World} : ((Ch.sl A n c e sz cs).P w → (Ch.rs A n sz cs).P w) ∧ ∀ b, (Ch.rs A n sz cs).ok b → (Ch.sl A n c e sz cs).ok b := ⟨SlP.rs, fun b h => h.2⟩
end Go.Proofs.YtnpdgmoeoidppaaGreat

/- search: fV, checks, candidates -/
namespace Go.Proofs.YtnpdgmoeoidppaaGreat
open Go.RowKit Go.Shelf
set_option linter.unusedVariables false
set_option linter.unusedSimpArgs false

theorem dw : TyI Tryz.prog 40 false 1 8 (.int .i64 0) := TyI.mk' (by kernel_rfl) (fun _ => by kernel_rfl)

def same2 (a b : aX) : Bool := decide (bg a = 0) && decide (bg b = 0) && decide (aY a = aY b)

theorem c_ref02_Same (a b : aX) (ha : a.length ≤ 1000000000) (hb : b.length ≤ 1000000000) : cC Tryz.prog 46 #[.string (ba a), .string (ba b)] (.bool (same2 a b)) := by
 intro w0
 refine a6 (ok0 := no) (S := []) (args := [.string (ba a), .string (ba b)]) 20 Tryz.func46 rfl rfl rfl (by simp) (by simp) ?_
 refine ao ?_
 refine ab ?_
 refine ap (ai rfl) rfl rfl ?_
 refine ae ?_
 refine aj ?_
 refine ao ?_
 refine ab ?_
 refine ap (ak rfl) rfl rfl ?_
 refine aR rfl ent_111 (ew _) rfl ?_
 refine ap (dl rfl rfl) rfl rfl ?_
 refine aG (t := 7) rfl (fun h1_2 => ?_) (fun h1_2 => ?_)
 refine ap (ak rfl) rfl rfl ?_
 refine aA rfl rfl ?_
 refine ap (ak rfl) rfl rfl ?_
 refine aA rfl rfl ?_
 refine aR rfl ent_111 (ew _) rfl ?_
 refine aA rfl rfl ?_
 refine ap (dl rfl rfl) rfl rfl ?_
 refine aG (t := 11) rfl (fun h1_6 => ?_) (fun h1_6 => ?_)
 refine ap (aP rfl rfl) rfl rfl ?_
 refine ap (ak rfl) rfl rfl ?_
 refine aA rfl rfl ?_
 refine ap (ak rfl) rfl rfl ?_
 refine aA rfl rfl ?_
 refine aR rfl ent_112 (gu _ (by omega)) rfl ?_
 refine aA rfl rfl ?_
 refine ap (ak rfl) rfl rfl ?_
 refine aA rfl rfl ?_
 refine aR rfl ent_112 (gu _ (by omega)) rfl ?_
 refine aA rfl rfl ?_
 refine ap (y_eqls rfl rfl) rfl rfl ?_
 refine ap (aP rfl rfl) rfl rfl ?_
 refine ap (ai rfl) rfl rfl ?_
 refine ae ?_
 refine aj ?_
 refine aH ?_
 refine aN (ts := [4]) rfl rfl rfl (fun w hw => ?_)
 refine ⟨?_, hw.base⟩
 show Ending.returned (.bool _) = _
 congr 2
 simp [same2, *]
 refine ap (aP rfl rfl) rfl rfl ?_
 refine ap (ak rfl) rfl rfl ?_
 refine aK rfl rfl rfl rfl ?_
 refine aK rfl rfl rfl rfl ?_
 refine aK rfl rfl rfl rfl ?_
 refine aK rfl rfl rfl rfl ?_
 refine aK rfl rfl rfl rfl ?_
 refine ap (aQ rfl rfl) rfl rfl ?_
 refine ap (ai rfl) rfl rfl ?_
 refine ae ?_
 refine aj ?_
 refine aH ?_
 refine aN (ts := [4]) rfl rfl rfl (fun w hw => ?_)
 refine ⟨?_, hw.base⟩
 show Ending.returned (.bool _) = _
 congr 2
 simp [same2, *]
 refine ap (ak rfl) rfl rfl ?_
 refine aK rfl rfl rfl rfl ?_
 refine aK rfl rfl rfl rfl ?_
 refine aK rfl rfl rfl rfl ?_
 refine ap (aQ rfl rfl) rfl rfl ?_
 refine ap (ak rfl) rfl rfl ?_
 refine aK rfl rfl rfl rfl ?_
 refine aK rfl rfl rfl rfl ?_
 refine aK rfl rfl rfl rfl ?_
 refine aK rfl rfl rfl rfl ?_
 refine aK rfl rfl rfl rfl ?_
 refine ap (aQ rfl rfl) rfl rfl ?_
 refine ap (ai rfl) rfl rfl ?_
 refine ae ?_
 refine aj ?_
 refine aH ?_
 refine aN (ts := [4]) rfl rfl rfl (fun w hw => ?_)
 refine ⟨?_, hw.base⟩
 show Ending.returned (.bool _) = _
 congr 2
 simp [same2, *]

end Go.Proofs.YtnpdgmoeoidppaaGreat

/- Names compared; what lies above a name: plain laws. -/
namespace Go.Proofs.YtnpdgmoeoidppaaGreat
open Go.RowKit Go.Shelf
set_option linter.unusedVariables false
set_option linter.unusedSimpArgs false

/-- Rows of labels compared. -/
def cmpLs : List aX → List aX → Int
  | [], [] => 0
  | [], _ :: _ => -1
  | _ :: _, [] => 1
  | x :: xs, y :: ys => if cmpS (db x) (db y) ≠ 0 then cmpS (db x) (db y) else cmpLs xs ys
/-- name.Compare. -/
def cmpN (a b : aX) : Int := cmpLs (bD a).reverse (bD b).reverse
/-! Steps of the loops. -/
end Go.Proofs.YtnpdgmoeoidppaaGreat

/- names compared, above, matched -/
namespace Go.Proofs.YtnpdgmoeoidppaaGreat
open Go.RowKit Go.Shelf
set_option linter.unusedVariables false
set_option linter.unusedSimpArgs false

theorem ent_173 : Enters Tryz.prog 173 := enters_of Tryz.func173 (by kernel_rfl) rfl
theorem ent_218 : Enters Tryz.prog 218 := enters_of Tryz.func218 (by kernel_rfl) rfl

theorem c_isNaN (n : Int) : cC Tryz.prog 218 #[.int .i64 n] (.bool false) := by
 intro w0
 refine a6 (ok0 := no) (S := []) (args := [.int .i64 n]) 6 Tryz.func218 rfl rfl rfl (by simp) (by simp) ?_
 refine ao ?_
 refine ab ?_
 refine ap (ai rfl) rfl rfl ?_
 refine ae ?_
 refine aj ?_
 refine ao ?_
 refine ab ?_
 refine ap (ak rfl) rfl rfl ?_
 refine ap (ak rfl) rfl rfl ?_
 refine ap (cc rfl rfl) rfl rfl ?_
 refine ap (ai rfl) rfl rfl ?_
 refine ae ?_
 refine aj ?_
 refine aH ?_
 refine aN (ts := [2]) rfl rfl rfl (fun w hw => ?_)
 exact ⟨by show Ending.returned (.bool _) = _; congr 2; simp, hw.base⟩

def cU (a b : Int) : Int := if a < b then -1 else if b < a then 1 else 0

theorem c_cmpI (a b : Int) : cC Tryz.prog 173 #[.int .i64 a, .int .i64 b] (.int .i64 (cU a b)) := by
 intro w0
 refine a6 (ok0 := no) (S := []) (args := [.int .i64 a, .int .i64 b]) 20 Tryz.func173 rfl rfl rfl (by simp) (by simp) ?_
 refine ao ?_
 refine ab ?_
 refine ap (ai rfl) rfl rfl ?_
 refine ae ?_
 refine aj ?_
 refine ao ?_
 refine ab ?_
 refine ap (ak rfl) rfl rfl ?_
 refine aR rfl ent_218 (c_isNaN _) rfl ?_
 refine bW (t := 8) (.bool false) rfl (congrArg Value.bool rfl) ?_
 refine ap (ai rfl) rfl rfl ?_
 refine ae ?_
 refine aj ?_
 refine ao ?_
 refine ab ?_
 refine ap (ak rfl) rfl rfl ?_
 refine aR rfl ent_218 (c_isNaN _) rfl ?_
 refine bW (t := 10) (.bool false) rfl (congrArg Value.bool rfl) ?_
 refine ap (ai rfl) rfl rfl ?_
 refine ae ?_
 refine aj ?_
 refine ao ?_
 refine ao ?_
 refine ab ?_
 refine ap (ak rfl) rfl rfl ?_
 refine ae ?_
 refine aj ?_
 refine aw rfl ?_
 refine aL ?_
 refine aj ?_
 refine ao ?_
 refine ao ?_
 refine ab ?_
 refine ap (ak rfl) rfl rfl ?_
 refine ae ?_
 refine aj ?_
 refine aw rfl ?_
 refine aL ?_
 refine aj ?_
 refine ao ?_
 refine ao ?_
 refine ab ?_
 refine ap (ak rfl) rfl rfl ?_
 refine ap (ak rfl) rfl rfl ?_
 refine ap (bQ rfl rfl) rfl rfl ?_
 refine aG (t := 16) rfl (fun h9_2 => ?_) (fun h9_2 => ?_)
 refine ae ?_
 refine aj ?_
 refine ay rfl ?_
 refine ao ?_
 refine ab ?_
 refine ap (ai rfl) rfl rfl ?_
 refine ae ?_
 refine aj ?_
 refine aH ?_
 refine az ?_
 refine aN (ts := [4]) rfl rfl rfl (fun w hw => ?_)
 refine ⟨?_, hw.base⟩
 show Ending.returned (.int _ _) = _
 congr 2
 focus first
   | (rw [cU, if_pos h9_2]
      done)
   | (rw [cU, if_neg h9_2, if_pos (by omega)]
      done)
   | (rw [cU, if_neg h9_2, if_neg (by omega)]
      done)
 refine ae ?_
 refine aj ?_
 refine aw rfl ?_
 refine aL ?_
 refine aj ?_
 refine ao ?_
 refine ao ?_
 refine ab ?_
 refine ap (ak rfl) rfl rfl ?_
 refine ap (ak rfl) rfl rfl ?_
 refine ap (dU rfl rfl) rfl rfl ?_
 refine aG (t := 19) rfl (fun h11_2 => ?_) (fun h11_2 => ?_)
 refine ae ?_
 refine aj ?_
 refine ay rfl ?_
 refine ao ?_
 refine ab ?_
 refine ap (ai rfl) rfl rfl ?_
 refine ae ?_
 refine aj ?_
 refine aH ?_
 refine az ?_
 refine aN (ts := [4]) rfl rfl rfl (fun w hw => ?_)
 refine ⟨?_, hw.base⟩
 show Ending.returned (.int _ _) = _
 congr 2
 focus first
   | (rw [cU, if_pos h9_2]
      done)
   | (rw [cU, if_neg h9_2, if_pos (by omega)]
      done)
   | (rw [cU, if_neg h9_2, if_neg (by omega)]
      done)
 refine ae ?_
 refine aj ?_
 refine aw rfl ?_
 refine aL ?_
 refine aj ?_
 refine ao ?_
 refine ab ?_
 refine ap (ai rfl) rfl rfl ?_
 refine ae ?_
 refine aj ?_
 refine aH ?_
 refine aN (ts := [4]) rfl rfl rfl (fun w hw => ?_)
 refine ⟨?_, hw.base⟩
 show Ending.returned (.int _ _) = _
 congr 2
 focus first
   | (rw [cU, if_pos h9_2]
      done)
   | (rw [cU, if_neg h9_2, if_pos (by omega)]
      done)
   | (rw [cU, if_neg h9_2, if_neg (by omega)]
      done)

end Go.Proofs.YtnpdgmoeoidppaaGreat

/- search: each candidate once; the laws of candidates -/
namespace Go.Proofs.YtnpdgmoeoidppaaGreat
open Go.RowKit Go.Shelf
set_option linter.unusedVariables false
set_option linter.unusedSimpArgs false

theorem ty_59 : TyI Tryz.prog 59 false 1 24 (.slice none 0 0) := TyI.mk' (by kernel_rfl) (fun _ => by kernel_rfl)

def namesE (s : Sr) (n : aX) : Int := if srCk s ≠ 0 then srCk s else bg n
end Go.Proofs.YtnpdgmoeoidppaaGreat

/- tables: looked at -/
namespace Go.Proofs.YtnpdgmoeoidppaaGreat
open Go.RowKit Go.Shelf
set_option linter.unusedVariables false
set_option linter.unusedSimpArgs false

def Rises (l : List Le) : Prop := ∀ i, 0 < i → i < l.length → 0 < cmpN (l.getD i le0).e.host (l.getD (i - 1) le0).e.host
instance (l : List Le) : Decidable (Rises l) := by
  have : Decidable (∀ i, i < l.length → (0 < i → 0 < cmpN (l.getD i le0).e.host (l.getD (i - 1) le0).e.host)) := inferInstance
  exact decidable_of_iff _ ⟨fun h i h0 hi => h i hi h0, fun h i hi h0 => h i h0 hi⟩
/-- What is known of a table's entries: their octets are so many, their numbers are such. -/
def TbOk (l : List Le) : Prop := ∀ x ∈ l, EnOk x.e ∧ lightE x.e = true
structure EnB (e : En) : Prop where
  wa : ∀ a ∈ e.addrs, 0 ≤ a.lo
  la : e.addrs.length ≤ 1000
  lp : e.ports.length ≤ 1000
  k : -9223372036854775808 ≤ e.kind ∧ e.kind ≤ 9223372036854775807
  h : e.host.length ≤ 1000
  al : e.alias.length ≤ 1000
theorem TbOk.at {l : List Le} (h : TbOk l) {k : Nat} (hk : k < l.length) : EnB (l.getD k le0).e := by
  obtain ⟨h1, h2⟩ := h _ (cF (d := le0) hk)
  have h3 := light_le h2
  exact ⟨h1.lo, by omega, by omega, h1.2.1, by omega, by omega⟩
theorem TbOk.hosts {l : List Le} (h : TbOk l) : ∀ x ∈ l, x.e.host.length ≤ 1000000000 := fun x hx => by
  have := light_le (h x hx).2; omega
end Go.Proofs.YtnpdgmoeoidppaaGreat

/- an index: made of a table, asked for names -/
namespace Go.Proofs.YtnpdgmoeoidppaaGreat
open Go.RowKit Go.Shelf
set_option linter.unusedVariables false
set_option linter.unusedSimpArgs false

abbrev cX : aX → Value := fun s => .string (ba s)
abbrev gE : Ad → Value := fun a => .agg (dC a).toArray
theorem EnB.eq {e f : En} (h : EnB e) (q : f = e) : EnB f := q ▸ h

end Go.Proofs.YtnpdgmoeoidppaaGreat

/- the laws of candidates -/
namespace Go.Proofs.YtnpdgmoeoidppaaGreat
open Go.RowKit Go.Shelf
set_option linter.unusedVariables false
set_option linter.unusedSimpArgs false

theorem Ok.pos {s : Sr} {n : aX} (h : Ok s n) : 1 ≤ (eachS s n).length := List.length_pos_of_mem h.mem
theorem Ok.nd {s : Sr} {n : aX} (h : Ok s n) (k : Int) (h1 : 0 ≤ k) (h2 : k ≤ 15) : Ok { s with ndots := k } n := by
  refine ⟨?_, h.n0⟩
  have h3 := h.s0
  unfold srCk at h3 ⊢
  split at h3
  · omega
  · rename_i q1
    split at h3
    · omega
    · rename_i q2
      split at h3
      · omega
      · rename_i q3
        rw [if_neg q1, if_neg q2, if_neg]
        rintro (q | q)
        · exact q3 (.inl q)
        · show False
          have q' : k < 0 ∨ 15 < k := q
          omega
theorem Ok.names {s : Sr} {n : aX} (h : Ok s n) : namesE s n = 0 := by rw [namesE, if_neg (by rw [h.s0]; decide)]; exact h.n0
end Go.Proofs.YtnpdgmoeoidppaaGreat

/- an index asked; the reference of indexes; the first candidate -/
namespace Go.Proofs.YtnpdgmoeoidppaaGreat
open Go.RowKit Go.Shelf
set_option linter.unusedVariables false
set_option linter.unusedSimpArgs false

theorem ent_46 : Enters Tryz.prog 46 := enters_of Tryz.func46 (by kernel_rfl) rfl
theorem bS : TyI Tryz.prog 46 true 4 40 (.agg #[.string ⟨#[]⟩, .bool false, .int .u64 0, .int .u64 0]) := TyI.mk' (by kernel_rfl) (fun _ => by kernel_rfl)

/-- What is held: a host, its address. -/
structure Hd where
  host : aX
  ad : Ad
def hdC (h : Hd) : List Value := [.string (ba h.host), .bool h.ad.six, .int .u64 h.ad.hi, .int .u64 h.ad.lo]
theorem fH : Enc hdC 4 := ⟨fun _ => rfl, fun _ => rfl⟩
def d2 : Hd := ⟨[], ad0⟩

def hst (l : List Le) (i : Nat) : aX := (l.getD i le0).e.host
end Go.Proofs.YtnpdgmoeoidppaaGreat

/- Regions with open order, inside rounds too, calls of yield in them; scopes; parts of slices. -/
namespace Go.Proofs.YtnpdgmoeoidppaaGreat
open Go.RowKit Go.Shelf
set_option linter.unusedVariables false
set_option linter.unusedSimpArgs false

/-! A scope through which nothing jumps. -/
section
variable {x : Cx} {l : Fr} {L S : List Ch} {Q : Exit → Act → World → Prop}
theorem cq {x : Cx} {Bk : List Ch} {σ : Type} {It : σ → Prop} {Ij : Code → σ → Prop} {Lf : σ → List Ch} {S : List Ch} : PkOk (Qr x Bk It Ij Lf S) := fun _ _ _ _ _ h => h.elim
end

/-! Regions with open order. -/
def noDefer (ops : Array Oper) : Bool := ops.all fun o => match o.op with
  | .defer _ => false
  | _ => true
theorem noDefer_spec {ops : Array Oper} (h : noDefer ops = true) {j : Nat} {o : Oper} (ho : ops[j]? = some o) : ∀ c, o.op ≠ .defer c := fun c e => by
  have h1 := Array.all_eq_true'.1 h o (Array.mem_of_getElem? ho)
  rw [e] at h1
  cases h1
theorem wpOpIn_putIf {ro : Option Nat} {P : Program} {ops : Array Oper} {Q : Exit → Act → World → Prop} {C : World → Prop} {j : Nat} {oi oj : Oper} {v : Value} (hj : ops[j]? = some oj) (hap : oi.apart ops oj = true)
    (hsi : ∀ cs b, oi.op ≠ .select cs b) (hsj : ∀ cs b, oj.op ≠ .select cs b) (hdj : ∀ c, oj.op ≠ .defer c)
    (hQ : ∀ c a w, Q (.panic c) (a.put oi.dst v) w → Q (.panic c) a w) {K : Act → World → Prop} {a : Act} {w : World}
    (hy : YieldsIf P ops C oi v a) (h : wpOpIn (fw ro) 0 P ops Q j K (a.put oi.dst v) w) :
    wpOpIn (fw ro) 0 P ops Q j (fun a' w' => YieldsIf P ops C oi v a' ∧ K (a'.put oi.dst v) w') a w := by
  obtain ⟨h1, h2, h3⟩ := Oper.apart_spec hap
  have keep : ∀ (a : Act), YieldsIf P ops C oi v a → ∀ u, YieldsIf P ops C oi v (a.put oj.dst u) := fun a hy u =>
    hy.of_same (execOp_put oi hsi a oj.dst u h3) (wanted_put oi a oj.dst u h3)
  have keepD : ∀ d, YieldsIf P ops C oi v { a with defers := d :: a.defers } := fun d => hy.of_same rfl rfl
  unfold wpOpIn at *
  simp only [hj] at *
  rw [wanted_put oj a oi.dst v h1] at h
  split
  · rename_i hw
    simp only [hw, if_true] at h
    unfold Oper.wpIn at *
    refine ⟨fun _ _ => trivial, ?_⟩
    have h := h.2
    rw [Oper.semAt_eq _ _ _ hdj, execOp_put oj hsj a oi.dst v h1] at h
    rw [Oper.semAt_eq _ _ _ hdj]
    generalize (execOp a.eval oj).run P w = r at *
    cases r with
    | ok n w' =>
      cases n <;> simp only [Oper.uponIn] at h ⊢
      case value u => exact ⟨keep a hy u, by rw [← Act.put_comm a v u h2]; exact h⟩
      case skip => exact ⟨keep a hy _, by rw [← Act.put_comm a v undef h2]; exact h⟩
      case defer d =>
        refine ⟨keep _ (keepD d) _, ?_⟩
        rw [← Act.put_comm _ v undef h2, ← Act.put_defers]
        exact h
      case enter f args =>
        refine ⟨h.1, CallsIn.mono h.2 fun e w'' he => ?_⟩
        cases e with
        | returned u => exact ⟨keep a hy u, by rw [← Act.put_comm a v u h2]; exact he⟩
        | panicked c => exact hQ _ _ _ he
        | outgrown => exact he
      case row row args => exact ⟨h.1, RowsIn.mono h.2 fun u w'' he => ⟨keep a hy u, by rw [← Act.put_comm a v u h2]; exact he⟩⟩
      case round l f tmps assign body =>
        refine ⟨h.1, RoundIn.mono h.2 fun e w'' he => ?_⟩
        cases e with
        | returned u => exact ⟨keep a hy u, by rw [← Act.put_comm a v u h2]; exact he⟩
        | panicked c => exact hQ _ _ _ he
        | outgrown => exact he
    | halt x w' =>
      cases x <;> simp only [Oper.uponIn] at h ⊢
      case panic u => exact hQ _ _ _ h
  · rename_i hw
    simp only [hw] at h
    exact ⟨fun _ _ => trivial, keep a hy _, by rw [← Act.put_comm a v undef h2]; exact h.2⟩
theorem ff {ro : Option Nat} {P : Program} {ops : Array Oper} {Q : Exit → Act → World → Prop} {C : World → Prop} {i : Nat} {o : Oper} {v : Value} {a : Act} (hi : ops[i]? = some o) (hd : ∀ c, o.op ≠ .defer c) (hy : YieldsIf P ops C o v a)
    {K : Act → World → Prop} {w : World} (hS : C w) (h : K (a.put o.dst v) w) : wpOpIn (fw ro) 0 P ops Q i K a w := by
  unfold Go.wpOpIn
  simp only [hi]
  rcases hy with ⟨hw, hv⟩ | ⟨hw, rfl⟩
  · simp only [hw, if_true, Oper.wpIn, Oper.semAt_eq _ _ _ hd, hv w hS, Oper.uponIn]; exact ⟨fun _ _ => trivial, h⟩
  · simp only [hw, Bool.false_eq_true, if_false]; exact ⟨fun _ _ => trivial, h⟩
def fY (ro : Option Nat) (P : Program) (ops : Array Oper) (Q : Exit → Act → World → Prop) (C : World → Prop) (m : Nat) : Nat → Array Bool → Act → World → Prop
  | 0, listed, a, _w => Region.ready .any ops listed = [] ∧ Q .normal a _w
  | fuel + 1, listed, a, w =>
    (Region.ready .any ops listed = [] → Q .normal a w) ∧
    ∀ i ∈ Region.ready .any ops listed, wpOpIn (fw ro) 0 P ops Q i (fun a' w' => (di m (listed.setIfInBounds i true) = true → C w') ∧ fY ro P ops Q C m fuel (listed.setIfInBounds i true) a' w') a w
theorem gk {ro : Option Nat} {P : Program} {ops : Array Oper} {Q : Exit → Act → World → Prop} {C : World → Prop} {m : Nat} : ∀ (fuel : Nat) (listed : Array Bool) (a : Act) (w : World), fY ro P ops Q C m fuel listed a w → wpAnyIn (fw ro) 0 P .any ops Q fuel listed a w
  | 0, _, _, _, h => h
  | fuel + 1, _, _, _, h => ⟨h.1, fun i hi => wpOpIn_mono (fun a' w' h' => gk fuel _ a' w' h'.2) (h.2 i hi)⟩
theorem wpAnyV_first {ro : Option Nat} {P : Program} {ops : Array Oper} {Q : Exit → Act → World → Prop} {C : World → Prop} {m i : Nat} {oi : Oper} {v : Value} (hi : ops[i]? = some oi) (hsel : ∀ (j : Nat) (o : Oper) cs b, ops[j]? = some o → o.op ≠ .select cs b) (hdef : ∀ (j : Nat) (o : Oper), ops[j]? = some o → ∀ c, o.op ≠ .defer c)
    (hQ : ∀ c a w, Q (.panic c) (a.put oi.dst v) w → Q (.panic c) a w) (hm : gg ops m i = true) (him : i < m) :
    ∀ (fuel : Nat) (listed : Array Bool) (a : Act) (w : World), di m listed = true → fQ ops listed →
      (∀ j oj, ops[j]? = some oj → j ≠ i → listed.getD j true = false → (∀ e ∈ oj.after, Region.binds .any e = true → e.on ≠ i) → oi.apart ops oj = true) →
      i ∈ Region.ready .any ops listed → YieldsIf P ops C oi v a → C w →
      fY ro P ops Q C m fuel (listed.setIfInBounds i true) (a.put oi.dst v) w → fY ro P ops Q C m (fuel + 1) listed a w := by
  intro fuel
  induction fuel with
  | zero =>
    intro listed a w hnt hcl _ hr hy hS H
    refine ⟨fun h => (by rw [h] at hr; cases hr), fun j hj => ?_⟩
    by_cases hji : j = i
    · subst hji; exact ff hi (hdef _ _ hi) hy hS ⟨fun _ => hS, H⟩
    · have := ready_mono hj hji
      rw [H.1] at this
      cases this
  | succ fuel ih =>
    intro listed a w hnt hcl hfree hr hy hS H
    refine ⟨fun h => (by rw [h] at hr; cases hr), fun j hj => ?_⟩
    by_cases hji : j = i
    · subst hji; exact ff hi (hdef _ _ hi) hy hS ⟨fun _ => hS, H⟩
    · have h1 := H.2 j (ready_mono hj hji)
      obtain ⟨hjun, oj, hoj, hall⟩ := mem_ready.1 hj
      have hun : listed.getD i false = false := by
        have h0 := (mem_ready.1 hr).1
        rcases Nat.lt_or_ge i listed.size with h' | h'
        · simpa [h'] using h0
        · simp [Array.getElem?_eq_none h']
      have hnot : ∀ e ∈ oj.after, Region.binds .any e = true → e.on ≠ i := fun e he hb heq => by
        have h1 := hall e he hb
        rw [heq, hun] at h1
        cases h1
      have hjm : j < m := by
        rcases Nat.lt_or_ge j m with h | h
        · exact h
        · simp only [gg, List.all_eq_true, List.mem_range] at hm
          have h1 := hm j (Array.getElem?_eq_some_iff.1 hoj).1
          rw [Bool.or_eq_true] at h1
          rcases h1 with h1 | h1
          · have := Nat.le_of_ble_eq_true h1; omega
          · rw [e7 hcl _ j oj hoj hall h1] at hun; cases hun
      have h2 := wpOpIn_putIf hoj (hfree j oj hoj hji hjun hnot) (fun cs b => hsel i oi cs b hi) (fun cs b => hsel j oj cs b hoj) (hdef j oj hoj) hQ hy h1
      have hfree' : ∀ k ok, ops[k]? = some ok → k ≠ i → (listed.setIfInBounds j true).getD k true = false →
          (∀ e ∈ ok.after, Region.binds .any e = true → e.on ≠ i) → oi.apart ops ok = true := fun k ok hk hki hun' hno => by
        refine hfree k ok hk hki ?_ hno
        by_cases hjk : j = k
        · subst hjk; exact hjun
        · rw [getD_set_ne true hjk] at hun'; exact hun'
      have hC := dK (dK hnt him) hjm
      refine wpOpIn_mono (fun a' w' h3 => ⟨fun _ => h3.2.1 hC, ih (listed.setIfInBounds j true) a' w' (dK hnt hjm) (closed_set hcl hoj hall) hfree' (ready_mono hr (Ne.symm hji)) h3.1 (h3.2.1 hC) ?_⟩) h2
      rw [Array.setIfInBounds_comm _ _ hji]
      exact h3.2.2
def WV (x : Cx) (C : World → Prop) (m : Nat) (ops : Array Oper) (fuel : Nat) (listed : Array Bool) (l : Fr) (L S : List Ch) (Q : Exit → Act → World → Prop) : Prop :=
  ∀ a w, Kn x.N x.ds l a → Hp x.ok0 x.w0 L S w → fY x.ro x.P ops Q C m fuel listed a w
def QnV (x : Cx) (C : World → Prop) (m : Nat) (ops : Array Oper) (fuel : Nat) (listed : Array Bool) (Q : Exit → Act → World → Prop) : Exit → Act → World → Prop := Exit.then (fun a w => (di m listed = true → C w) ∧ fY x.ro x.P ops Q C m fuel listed a w) Q
def WRV (x : Cx) (C : World → Prop) (m : Nat) (ops : Array Oper) (fuel : Nat) (listed : Array Bool) (js : List Nat) (l : Fr) (L S : List Ch) (Q : Exit → Act → World → Prop) : Prop :=
  ∀ i ∈ js, ∀ a w, Kn x.N x.ds l a → Hp x.ok0 x.w0 L S w → wpOpIn (fw x.ro) 0 x.P ops Q i (fun a' w' => (di m (listed.setIfInBounds i true) = true → C w') ∧ fY x.ro x.P ops Q C m fuel (listed.setIfInBounds i true) a' w') a w
section
variable {x : Cx} {C : World → Prop} {l : Fr} {L S : List Ch} {Q : Exit → Act → World → Prop} {ops : Array Oper} {fuel m : Nat} {listed : Array Bool}
theorem w_drawV {id : Nat} {ol : List Oper} (m : Nat) (hm : x.P.follows .mixedOrders = true) (h : WV x (Hp x.ok0 x.w0 L S) m ol.toArray ol.length (Array.replicate ol.length false) l L S Q) : W x l L S (.region id ol.toArray true) Q := fun a w ha hw => by
  refine wpIn_region_any hm (gk (C := Hp x.ok0 x.w0 L S) (m := m) _ _ _ _ ?_)
  have := h a { w with drawn := w.drawn + 1 } ha hw.drew
  simpa using this
theorem bd {i d : Nat} {op : Op} {ty : TypeId} {pos : String} {af : Array Edge} {gd : Option (Nat × Bool)} {v : Value} {listed' : Array Bool} {L0 S0 : List Ch} (hi : ops[i]? = some ⟨some d, op, ty, pos, af, gd⟩) (hw : ∀ a, Kn x.N x.ds l a → Region.wanted ⟨some d, op, ty, pos, af, gd⟩ (yielded ops a.tmps) = true)
    (hy : Yv x l L0 S0 ⟨some d, op, ty, pos, af, gd⟩ v) (hC : ∀ w, Hp x.ok0 x.w0 L S w → C w) (hC0 : ∀ w, C w → Hp x.ok0 x.w0 L0 S0 w) (hN : Nat.blt d x.N = true) (hpk : PkOk Q)
    (hs : (Region.noSelect ops && noDefer ops && Region.free .any ops listed i && (Region.ready .any ops listed).contains i && gg ops m i && Nat.blt i m && di m listed && gx ops listed) = true) (hl : listed.setIfInBounds i true = listed')
    (k : WV x C m ops fuel listed' ((d, v) :: l) L S Q) : WV x C m ops (fuel + 1) listed l L S Q := fun a w ha hh => by
  simp only [Bool.and_eq_true] at hs
  obtain ⟨⟨⟨⟨⟨⟨⟨h1, h0⟩, h2⟩, h3⟩, h4⟩, h5⟩, h6⟩, h7⟩ := hs
  exact wpAnyV_first hi (Region.noSelect_spec h1) (fun _ _ ho => noDefer_spec h0 ho) (fun c a w h => hpk c a w _ _ h) h4 (Nat.le_of_ble_eq_true h5) fuel listed a w h6 (closed_of h7) (Region.free_spec hi h2) (by simpa using h3) (.inl ⟨hw a ha, fun w' hw' => hy a w' ha (hC0 w' hw')⟩) (hC w hh) (by rw [hl]; exact k _ w (ha.put (Nat.le_of_ble_eq_true hN) v) hh)
theorem cz {C : World → Prop} {l : Fr} {L S : List Ch} (hC : ∀ w, Hp x.ok0 x.w0 L S w → C w) (h : WV x C m ops fuel listed l L S Q) : E x l L S .normal (QnV x C m ops fuel listed Q) := fun a w ha hw => ⟨fun _ => hC w hw, h a w ha hw⟩
theorem v_many {js : List Nat} (hr : Region.ready .any ops listed = js) (hne : js.isEmpty = false) (h : WRV x C m ops fuel listed js l L S Q) : WV x C m ops (fuel + 1) listed l L S Q := fun a w ha hh =>
  ⟨fun h0 => by rw [hr] at h0; subst h0; simp at hne, fun j hj => h j (hr ▸ hj) a w ha hh⟩
theorem wrv_nil : WRV x C m ops fuel listed [] l L S Q := fun i hi => by cases hi
theorem wrv_cons {js : List Nat} {o : Oper} {i : Nat} {listed' : Array Bool} (hi : ops[i]? = some o) (hl : listed.setIfInBounds i true = listed')
    (h : WL x l L S ops [o] (QnV x C m ops fuel listed' Q)) (k : WRV x C m ops fuel listed js l L S Q) : WRV x C m ops fuel listed (i :: js) l L S Q := fun j hj => by
  rcases List.mem_cons.1 hj with rfl | hj
  · intro a w ha hh
    rw [hl]
    have h1 := h a w ha hh
    unfold wpListIn at h1
    unfold wpOpIn
    simp only [hi]
    split
    · rename_i hw
      rw [if_pos hw] at h1
      obtain ⟨_, h1⟩ := h1
      refine ⟨fun _ _ => trivial, ?_⟩
      generalize (Oper.semAt (fw x.ro).round a.eval o).run x.P w = r at *
      cases r with
      | halt hh w' => cases hh <;> exact h1
      | ok n w' =>
        cases n with
        | enter f args => exact ⟨h1.1, CallsIn.mono h1.2 fun e w'' hR => by cases e <;> exact hR⟩
        | row r args => exact ⟨h1.1, RowsIn.mono h1.2 fun _ _ hR => hR⟩
        | round l2 f tmps asg body => exact ⟨h1.1, RoundIn.mono h1.2 fun e w'' hR => by cases e <;> exact hR⟩
        | _ => exact h1
    · rename_i hw
      rw [if_neg hw] at h1
      exact ⟨fun _ _ => trivial, h1.2⟩
  · exact k j hj
theorem dz {o : Oper} {i : Nat} {listed' : Array Bool} (hi : ops[i]? = some o) (hr : Region.ready .any ops listed = [i]) (hl : listed.setIfInBounds i true = listed')
    (h : WL x l L S ops [o] (QnV x C m ops fuel listed' Q)) : WV x C m ops (fuel + 1) listed l L S Q := v_many hr rfl (wrv_cons hi hl h wrv_nil)
theorem wv_as {t : Nat} {v : Value} (v' : Value) (h : look l t = some v) (e : v = v') (k : WV x C m ops fuel listed ((t, v') :: l) L S Q) : WV x C m ops fuel listed l L S Q := fun a w ha hw => k a w (ha.mono fun t' u h' => by
    simp only [look] at h'
    cases e2 : Nat.beq t t' with
    | true => rw [e2] at h'; cases h'; rw [← Nat.eq_of_beq_eq_true e2, h, e]
    | false => rw [e2] at h'; exact h') hw
theorem wv_splitb {t : Nat} {b : Bool} (h : look l t = some (.bool b)) (ht : b = true → WV x C m ops fuel listed ((t, .bool true) :: l) L S Q) (hf : b = false → WV x C m ops fuel listed ((t, .bool false) :: l) L S Q) : WV x C m ops fuel listed l L S Q := by
  cases hb : b with
  | true => exact wv_as (.bool true) h (by rw [hb]) (ht hb)
  | false => exact wv_as (.bool false) h (by rw [hb]) (hf hb)
theorem fo {fuel : Nat} (hr : Region.ready .any ops listed = []) (h : E x l L S .normal Q) : WV x C m ops fuel listed l L S Q := fun a w ha hh => by
  cases fuel with
  | zero => exact ⟨hr, h a w ha hh⟩
  | succ n => exact ⟨fun _ => h a w ha hh, by rw [hr]; simp⟩
end

/-! Parts of slices. -/
section
variable {x : Cx} {l : Fr} {L S : List Ch}
variable {d : Nat} {ty : TypeId} {pos : String} {af : Array Edge} {gd : Option (Nat × Bool)}
end
end Go.Proofs.YtnpdgmoeoidppaaGreat

/- A field of a value. -/
namespace Go.Proofs.YtnpdgmoeoidppaaGreat
open Go.RowKit Go.Shelf
set_option linter.unusedVariables false

section
variable {x : Cx} {l : Fr} {L S : List Ch} {d : Nat} {ty : TypeId} {pos : String} {af : Array Edge} {gd : Option (Nat × Bool)}
theorem y_fieldv {t : TypeId} {y : Operand} {i : Nat} {u v : Value} (hy : ev l y = some u) (hf : ∀ w, (Instr.field t u i).run x.P w = .ok v w) :
    Yv x l L S ⟨some d, .field t y i, ty, pos, af, gd⟩ v := fun a w ha hw => by
  simp [execOp, ha.ev hy, hf w]
end
end Go.Proofs.YtnpdgmoeoidppaaGreat

/- A map that holds whatever. -/
namespace Go.Proofs.YtnpdgmoeoidppaaGreat
open Go.RowKit Go.Shelf
set_option linter.unusedVariables false

def Ch.mpany {α β : Type} (r : Nat) (encK : α → Value) (encV : β → Value) : Ch := ⟨fun k => k = r, fun w => ∃ m, (Ch.mp r encK encV m).P w, fun w w' ⟨m, h⟩ k => ⟨m, (Ch.mp r encK encV m).st w w' h k⟩⟩
theorem Hp.anymp {α β : Type} {encK : α → Value} {encV : β → Value} {ok0 : Nat → Prop} {w0 : World} {L L' S : List Ch} {w : World} {i r : Nat} {m : List (α × β)} (h : Hp ok0 w0 L S w) (hi : SetAt L i (Ch.mp r encK encV m) (Ch.mpany r encK encV) L') : Hp ok0 w0 L' S w :=
  h.turn hi (fun hp => ⟨m, hp⟩) (fun _ h => h)
theorem w_drawVA {x : Cx} {l : Fr} {L S : List Ch} {Q : Exit → Act → World → Prop} {id : Nat} {ol : List Oper} {La Sa : List Ch} (m : Nat) (hm : x.P.follows .mixedOrders = true) (hA : ∀ w, Hp x.ok0 x.w0 L S w → Hp x.ok0 x.w0 La Sa w) (h : WV x (Hp x.ok0 x.w0 La Sa) m ol.toArray ol.length (Array.replicate ol.length false) l L S Q) : W x l L S (.region id ol.toArray true) Q := fun a w ha hw => by
  refine wpIn_region_any hm (gk (C := Hp x.ok0 x.w0 La Sa) (m := m) _ _ _ _ ?_)
  have := h a { w with drawn := w.drawn + 1 } ha hw.drew
  simpa using this
end Go.Proofs.YtnpdgmoeoidppaaGreat

/- Parts of slices that are read. -/
namespace Go.Proofs.YtnpdgmoeoidppaaGreat
open Go.RowKit Go.Shelf
set_option linter.unusedVariables false

section
variable {x : Cx} {l : Fr} {L S : List Ch}
end
section
variable {x : Cx} {C : World → Prop} {l : Fr} {L S : List Ch} {Q : Exit → Act → World → Prop} {ops : Array Oper} {fuel m : Nat} {listed : Array Bool}
theorem wu_at {t : Nat} {p : Prop} [Decidable p] (h : look l t = some (.bool (decide p))) (hp : p) (k : WU x C m ops fuel listed ((t, .bool true) :: l) L S Q) : WU x C m ops fuel listed l L S Q := d7 (.bool true) h (by rw [decide_eq_true hp]) k
theorem wu_af {t : Nat} {p : Prop} [Decidable p] (h : look l t = some (.bool (decide p))) (hp : ¬ p) (k : WU x C m ops fuel listed ((t, .bool false) :: l) L S Q) : WU x C m ops fuel listed l L S Q := d7 (.bool false) h (by rw [decide_eq_false hp]) k
theorem wu_splitb {t : Nat} {b : Bool} (h : look l t = some (.bool b)) (ht : b = true → WU x C m ops fuel listed ((t, .bool true) :: l) L S Q) (hf : b = false → WU x C m ops fuel listed ((t, .bool false) :: l) L S Q) : WU x C m ops fuel listed l L S Q := by
  cases hb : b with
  | true => exact d7 (.bool true) h (by rw [hb]) (ht hb)
  | false => exact d7 (.bool false) h (by rw [hb]) (hf hb)
theorem wu_splitp {t : Nat} {p : Prop} [Decidable p] (h : look l t = some (.bool (decide p))) (ht : p → WU x C m ops fuel listed ((t, .bool true) :: l) L S Q) (hf : ¬ p → WU x C m ops fuel listed ((t, .bool false) :: l) L S Q) : WU x C m ops fuel listed l L S Q := by
  by_cases hp : p
  · exact wu_at h hp (ht hp)
  · exact wu_af h hp (hf hp)
end
end Go.Proofs.YtnpdgmoeoidppaaGreat

/- Maps: an entry is laid and then stored to, a key is dropped, a map is cloned; the sum with carry. -/
namespace Go.Proofs.YtnpdgmoeoidppaaGreat
open Go.RowKit Go.Shelf
set_option linter.unusedVariables false
section
variable {α β : Type} [DecidableEq α] {encK : α → Value} {encV : β → Value}
/-- A map with one entry more than its pairs, whose value is not laid yet. -/
structure MqP (r : Nat) (encK : α → Value) (encV : β → Value) (m : List (α × β)) (a : α) (z : Value) (st : Nat) (w : World) : Prop where
  at_ : ∃ es : Array MapEntry, w.heap[r]? = some (.map (es.push ⟨encK a, z, st⟩) (st + 1)) ∧ es.toList.map (·.key) = m.map (fun p => encK p.1) ∧ es.toList.map (·.val) = m.map (fun p => encV p.2) ∧ (es.toList.map (·.born)).Nodup ∧ ∀ e ∈ es.toList, e.born < st
def Ch.mq (r : Nat) (encK : α → Value) (encV : β → Value) (m : List (α × β)) (a : α) (z : Value) (st : Nat) : Ch :=
  ⟨fun k => k = r, MqP r encK encV m a z st, fun w w' ⟨es, h1, h2⟩ hk => ⟨es, (hk r rfl).trans h1, h2⟩⟩
theorem fk_new {m : List (α × β)} {a : α} (h : cK m a = none) (es : List MapEntry) (h3 : es.map (·.val) = m.map (fun p => encV p.2)) : fk a (m.map (·.1)) es 0 = none := by
  have := fk_lkp (encV := encV) a m es 0 h3
  rw [h] at this
  cases hf : fk a (m.map (·.1)) es 0 with
  | none => rfl
  | some p => rw [hf] at this; cases this
end
theorem cQ {α β : Type} (f : α → β) : ∀ (l : List α) (j : Nat), (l.eraseIdx j).map f = (l.map f).eraseIdx j
  | [], _ => rfl
  | _ :: _, 0 => rfl
  | a :: r, j + 1 => congrArg (f a :: ·) (cQ f r j)
section
variable {x : Cx} {l : Fr} {L S : List Ch} {Q : Exit → Act → World → Prop} {ops : Array Oper} {rest : List Oper} {d : Nat} {ty : TypeId} {pos : String} {af : Array Edge} {gd : Option (Nat × Bool)}
variable {α β : Type} {encK : α → Value} {encV : β → Value}
theorem o_entSt {t : TypeId} {y z u : Operand} {r i st : Nat} {m : List (α × β)} {a : α} {v : β} {zv : Value} {L' : List Ch} (hy : ev l y = some (.map (some r))) (hz : ev l z = some (.int .i64 st)) (hu : ev l u = some (encV v)) (hi : SetAt L i (Ch.mq r encK encV m a zv st) (Ch.mp r encK encV (m ++ [(a, v)])) L')
    (k : WL x l L' S ops rest Q) : WL x l L S ops (⟨none, .entryStore t y z u, ty, pos, af, none⟩ :: rest) Q :=
  wl_unit rfl rfl (fun _ => nofun) (fun ac w hac hw => by
    obtain ⟨es, h1, h2, h3, h4, h5⟩ := (show MqP r encK encV m a zv st w from hw.own _ hi.mem).at_
    have hlt : r < w.heap.size := (Array.getElem?_eq_some_iff.1 h1).1
    have hidx : (es.push ⟨encK a, zv, st⟩).findIdx? (fun e => ((e.born : Nat) : Int) == ((st : Nat) : Int)) = some es.size := by
      rw [Array.findIdx?_push]
      have h0 : es.findIdx? (fun e => ((e.born : Nat) : Int) == ((st : Nat) : Int)) = none := by
        rw [Array.findIdx?_eq_none_iff]
        intro e he
        have := h5 e (by simpa using he)
        simp; omega
      rw [h0]; simp
    have hmod : (es.push ⟨encK a, zv, st⟩).modify es.size (fun e => { e with val := encV v }) = es.push ⟨encK a, encV v, st⟩ := by
      apply Array.ext (by simp)
      intro j h6 h7
      rw [Array.getElem_modify]
      by_cases hj : es.size = j
      · subst hj; simp
      · have : j < es.size := by simp at h7; omega
        simp [hj, Array.getElem_push, this]
    refine ⟨w.putObj r (.map (es.push ⟨encK a, encV v, st⟩) (st + 1)), ?_, hw.upd hi ⟨rfl, rfl, rfl, by simp, fun k _ hn => World.putObj_heap_other (fun e => hn e), Nat.le_refl _⟩ ?_ (fun b hb => .inl hb)⟩
    · simp [execOp, hac.ev hy, hac.ev hz, hac.ev hu, Instr.entryStore, getObj, setObj, Sem.run, h1, asInt, asIntOf, hidx, hmod, Result.andThen, World.putObj]
    · refine ⟨_, _, World.putObj_heap_same hlt, by simp [h2], by simp [h3], ?_, ?_⟩
      · simp only [Array.toList_push, List.map_append, List.map_cons, List.map_nil]
        rw [List.nodup_append]
        refine ⟨h4, by simp, ?_⟩
        intro b hb c' hc'
        simp at hc'
        obtain ⟨e, he, rfl⟩ := List.mem_map.1 hb
        have := h5 e he
        omega
      · intro e he
        simp only [Array.toList_push, List.mem_append, List.mem_singleton] at he
        rcases he with he | rfl
        · have := h5 e he; omega
        · simp) k
end
section
variable {x : Cx} {l : Fr} {L S : List Ch} {Q : Exit → Act → World → Prop} {ops : Array Oper} {rest : List Oper} {d : Nat} {ty : TypeId} {pos : String} {af : Array Edge} {gd : Option (Nat × Bool)}
variable {α β : Type} [DecidableEq α] {encK : α → Value} {encV : β → Value}
theorem gB {t kt et : TypeId} {y z : Operand} {r i : Nat} {m : List (α × β)} {a : α} {agg : Bool} {sz bytes : Nat} {zv : Value} {L' : Nat → List Ch} (ht : x.P.underlying t = some (.map kt et)) (hk : KeyL x.P kt encK) (he : TyI x.P et agg sz bytes zv) (hy : ev l y = some (.map (some r))) (hz : ev l z = some (encK a)) (hn : cK m a = none) (hi : ∀ st, SetAt L i (Ch.mp r encK encV m) (Ch.mq r encK encV m a zv st) (L' st)) (hN : Nat.blt d x.N = true)
    (k : ∀ st : Nat, WL x ((d, .tuple [zv, .int .i64 st].toArray) :: l) (L' st) S ops rest Q) : WL x l L S ops (⟨some d, .mapEntry t y z, ty, pos, af, none⟩ :: rest) Q :=
  d3 (fun st : Nat => .tuple [zv, .int .i64 st].toArray) L' (fun _ => S) rfl rfl (fun _ => nofun) hN (fun ac w hac hw => by
    obtain ⟨es, c, h1, h2, h3, h4, h5⟩ := (show MpP r encK encV m w from hw.own _ (hi 0).mem).at_
    have hfind := hk.find a (m.map (·.1)) es.toList w (by rw [h2, List.map_map]; rfl)
    rw [fk_new hn es.toList h3] at hfind
    have hlt : r < w.heap.size := (Array.getElem?_eq_some_iff.1 h1).1
    refine ⟨c, w.putObj r (.map (es.push ⟨encK a, zv, c⟩) (c + 1)), ?_, hw.upd (hi c) ⟨rfl, rfl, rfl, by simp, fun k _ hn => World.putObj_heap_other (fun e => hn e), Nat.le_refl _⟩ ?_ (fun b hb => .inl hb)⟩
    · simp [execOp, hac.ev hy, hac.ev hz, Instr.mapEntry, run_underlying ht, getObj, setObj, Sem.run, h1, hk.chk, hfind, he.zero, Result.andThen, World.putObj, goInt]
    · exact ⟨es, World.putObj_heap_same hlt, h2, h3, h4, h5⟩) k
theorem rmv_none {m : List (α × β)} {a : α} (h : cK m a = none) : rmv m a = m := by
  induction m with
  | nil => rfl
  | cons p r ih =>
    obtain ⟨b, u⟩ := p
    rw [cK] at h
    by_cases e : a = b
    · rw [if_pos e] at h; cases h
    · rw [if_neg e] at h
      rw [rmv, if_neg e, ih h]
theorem o_mapDel {t kt et : TypeId} {y z : Operand} {tz : TypeId} {r i : Nat} {m : List (α × β)} {a : α} {L' : List Ch} (ht : x.P.underlying t = some (.map kt et)) (hk : KeyL x.P kt encK) (hy : ev l y = some (.map (some r))) (hz : ev l z = some (encK a)) (hi : SetAt L i (Ch.mp r encK encV m) (Ch.mp r encK encV (rmv m a)) L')
    (k : WL x l L' S ops rest Q) : WL x l L S ops (⟨none, .call { callee := .builtin .delete, args := #[y, z], argTypes := #[t, tz] }, ty, pos, af, none⟩ :: rest) Q :=
  e6 rfl (fun _ => nofun) fun ac w hac hw => by
    have main : ∃ w', (execOp ac.eval ⟨none, .call { callee := .builtin .delete, args := #[y, z], argTypes := #[t, tz] }, ty, pos, af, none⟩).run x.P w = .ok (.value (.tuple #[])) w' ∧ Hp x.ok0 x.w0 L' S w' := by
      obtain ⟨es, c, h1, h2, h3, h4, h5⟩ := (show MpP r encK encV m w from hw.own _ hi.mem).at_
      have hfind := hk.find a (m.map (·.1)) es.toList w (by rw [h2, List.map_map]; rfl)
      have hlt : r < w.heap.size := (Array.getElem?_eq_some_iff.1 h1).1
      have hl : es.toList.length = m.length := by have := congrArg List.length h2; simpa using this
      cases hf : fk a (m.map (·.1)) es.toList 0 with
      | none =>
        rw [hf] at hfind
        have hno : cK m a = none := by
          have := fk_lkp (encV := encV) a m es.toList 0 h3
          rw [hf] at this
          cases hq : cK m a with
          | none => rfl
          | some u => rw [hq] at this; cases this
        refine ⟨w.putObj r (.map es c), ?_, hw.upd hi ⟨rfl, rfl, rfl, by simp, fun k _ hn => World.putObj_heap_other (fun e => hn e), Nat.le_refl _⟩ ?_ (fun b hb => .inl hb)⟩
        · have : (Builtin.delete_ #[t, tz] ty #[.map (some r), encK a]).run x.P w = .ok (.tuple #[]) (w.putObj r (.map es c)) := by
            simp [Builtin.delete_, run_underlying ht, getObj, setObj, Sem.run, h1, hk.chk, hfind, Result.andThen, World.putObj]
          simp only [execOp, resolve, invoke, builtin]
          simp [hac.ev hy, hac.ev hz, this]
        · exact ⟨es, c, World.putObj_heap_same hlt, by rw [rmv_none hno]; exact h2, by rw [rmv_none hno]; exact h3, h4, h5⟩
      | some p =>
        obtain ⟨j, u0⟩ := p
        rw [hf] at hfind
        obtain ⟨_, ⟨e, he⟩, hm, hq⟩ := fk_some (encV := encV) a m es.toList 0 j u0 hl hf
        simp only [Nat.sub_zero] at he hm hq
        have hj : j < es.size := by have := (List.getElem?_eq_some_iff.1 he).1; simpa using this
        have hrm : rmv m a = m.eraseIdx j := by
          cases hq0 : m[j]? with
          | none => rw [List.getElem?_map, hq0] at hm; cases hm
          | some p => exact (hq p.2).2.2
        refine ⟨w.putObj r (.map (es.eraseIdxIfInBounds j) c), ?_, hw.upd hi ⟨rfl, rfl, rfl, by simp, fun k _ hn => World.putObj_heap_other (fun e => hn e), Nat.le_refl _⟩ ?_ (fun b hb => .inl hb)⟩
        · have : (Builtin.delete_ #[t, tz] ty #[.map (some r), encK a]).run x.P w = .ok (.tuple #[]) (w.putObj r (.map (es.eraseIdxIfInBounds j) c)) := by
            simp [Builtin.delete_, run_underlying ht, getObj, setObj, Sem.run, h1, hk.chk, hfind, Result.andThen, World.putObj]
          simp only [execOp, resolve, invoke, builtin]
          simp [hac.ev hy, hac.ev hz, this]
        · have hle : (es.eraseIdxIfInBounds j).toList = es.toList.eraseIdx j := by simp [Array.eraseIdxIfInBounds, hj]
          refine ⟨_, c, World.putObj_heap_same hlt, ?_, ?_, ?_, ?_⟩
          · rw [hle, hrm, cQ, cQ, h2]
          · rw [hle, hrm, cQ, cQ, h3]
          · rw [hle, cQ]; exact h4.sublist (List.eraseIdx_sublist _ _)
          · rw [hle]; exact fun e he => h5 e ((List.eraseIdx_sublist _ _).subset he)
    obtain ⟨w', h1, h2⟩ := main
    rw [h1]
    show wpListIn _ _ _ _ _ _ (ac.put none _) w'
    exact k _ _ (hac.skip _) h2
theorem y_add64 {g : Nat} {fn : Func} {ya yb yc : Operand} {a b c : Int} {tys : Array TypeId} (hf : x.P.funcs[g]? = some fn) (hname : (fn.name == "runtime.NumGoroutine") = false) (hb : fn.body.isNone = true) (hn : Extern.findNext fn = none) (he : Extern.find fn = some add64Entry) (hya : ev l ya = some (.int .u64 a)) (hyb : ev l yb = some (.int .u64 b)) (hyc : ev l yc = some (.int .u64 c)) (ha0 : 0 ≤ a) (hb0 : 0 ≤ b) (hc0 : 0 ≤ c ∧ c ≤ 1) :
    Yv x l L S ⟨some d, .call { callee := .value (.func g), args := #[ya, yb, yc], argTypes := tys }, ty, pos, af, gd⟩ (.tuple #[.int .u64 ((a + b + c) % 18446744073709551616), .int .u64 ((a + b + c) / 18446744073709551616)]) := fun ac w hac hw => by
  have e := run_callFunc_extern (P := x.P) hf hname hb hn he #[.int .u64 a, .int .u64 b, .int .u64 c] w
  rw [run_add64 a b c ha0 hb0 hc0.1 hc0.2] at e
  simp only [Result.andThen] at e
  have hg : ac.eval (.func g) = .func (.func g) #[] #[] := rfl
  simp [execOp, resolve, hg, Deferred.ofValue, invoke, hac.ev hya, hac.ev hyb, hac.ev hyc, e]
end
end Go.Proofs.YtnpdgmoeoidppaaGreat

/- Regions with open order whose states are met more than once. -/
namespace Go.Proofs.YtnpdgmoeoidppaaGreat
open Go.RowKit Go.Shelf
set_option linter.unusedVariables false
section
variable {x : Cx} {C : World → Prop} {l : Fr} {L S : List Ch} {Q : Exit → Act → World → Prop} {ops : Array Oper} {fuel m : Nat} {listed : Array Bool}
end
end Go.Proofs.YtnpdgmoeoidppaaGreat
