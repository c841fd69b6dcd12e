import Derived.Test.YtnpdgmoeoidppaaPcQc
import Derived.Test.YtnpdgmoeoidppaaCmQc
/- Search: plain laws. -/
namespace Go.Proofs.Ytnpdgmoeoidppaa
open Go.RowKit Go.Shelf
set_option linter.unusedVariables false
set_option linter.unusedSimpArgs false

/-- A search. -/
structure Sr where
  ndots : Int
  doms : List aW
def gB : List aW → Int
  | [] => 0
  | d :: r => if bi d ≠ 0 then bi d else gB r
theorem domsCk_zero : ∀ {l : List aW}, gB l = 0 ↔ ∀ d ∈ l, bi d = 0
  | [] => by simp [gB]
  | d :: r => by
    rw [gB]
    by_cases h : bi d ≠ 0
    · rw [if_pos h]; simp [h]
    · rw [if_neg h, domsCk_zero]
      have : bi d = 0 := by omega
      simp [this]
def srCk (s : Sr) : Int := if 6 < s.doms.length then 3 else if gB s.doms ≠ 0 then gB s.doms else if ([] : aW) ∈ s.doms ∨ s.ndots < 0 ∨ 15 < s.ndots then 2 else 0
theorem srCk_zero {s : Sr} (h : srCk s = 0) : s.doms.length ≤ 6 ∧ (∀ d ∈ s.doms, bi d = 0 ∧ d ≠ []) ∧ 0 ≤ s.ndots ∧ s.ndots ≤ 15 := by
  unfold srCk at h
  split at h
  · omega
  · split at h
    · omega
    · rename_i h1 h2
      split at h
      · omega
      · rename_i h3
        have h4 := domsCk_zero.1 (show gB s.doms = 0 by omega)
        refine ⟨by omega, fun d hd => ⟨h4 d hd, fun e => h3 (.inl (e ▸ hd))⟩, ?_, ?_⟩
        · by_cases q : 0 ≤ s.ndots
          · exact q
          · exact absurd (.inr (.inl (by omega))) h3
        · by_cases q : s.ndots ≤ 15
          · exact q
          · exact absurd (.inr (.inr (by omega))) h3
/-- name.Join. -/
def joinE (a b : aW) : Int := if bi a ≠ 0 then bi a else if bi b ≠ 0 then bi b else if 254 < a.length + b.length then 3 else 0
theorem joinE_zero {a b : aW} : joinE a b = 0 ↔ bi a = 0 ∧ bi b = 0 ∧ a.length + b.length ≤ 254 := by
  unfold joinE
  by_cases h1 : bi a = 0
  · by_cases h2 : bi b = 0
    · rw [if_neg (by omega), if_neg (by omega)]
      by_cases h3 : 254 < a.length + b.length
      · rw [if_pos h3]; simp; omega
      · rw [if_neg h3]; simp [h1, h2]; omega
    · rw [if_neg (by omega), if_pos h2]; simp [h1, h2]
  · rw [if_pos h1]; simp [h1]
theorem okN_append {a b : aW} (ha : okN a = true) (hb : okN b = true) : okN (a ++ b) = true := by
  have h := (e7 (ey a ++ ey b) (fun s hs => (List.mem_append.1 hs).elim (dW a s) (dW b s))).1
  rw [ew, eM a ha, eM b hb] at h
  exact h
theorem gr {a b : aW} (h : joinE a b = 0) : bi (a ++ b) = 0 := by
  obtain ⟨h1, h2, h3⟩ := joinE_zero.1 h
  exact nameCk_zero.2 ⟨by rw [List.length_append]; omega, okN_append (nameCk_zero.1 h1).2 (nameCk_zero.1 h2).2⟩
theorem fW {n : aW} (h : bi n = 0) : bg n = cG n := if_pos h
theorem foldN_len {n : aW} (h : bi n = 0) : (bg n).length = n.length := by rw [fW h, dv]
/-- The domains joined. -/
def gx (n : aW) (l : List aW) : List aW := (l.filter fun d => decide (joinE n d = 0)).map fun d => n ++ d
def ownS (s : Sr) (n : aW) : Prop := n = [] ∨ s.ndots ≤ ((bE n).length : Int) - 1
instance (s : Sr) (n : aW) : Decidable (ownS s n) := by unfold ownS; infer_instance
/-- The candidates, some of them twice. -/
def gA (s : Sr) (n : aW) : List aW := if n = [] then [n] else if ownS s n then n :: gx n s.doms else gx n s.doms ++ [n]
/-- Each once. -/
def ded : List aW → List aW → List aW
  | _, [] => []
  | seen, x :: r => if bg x ∈ seen then ded seen r else x :: ded (bg x :: seen) r
def gW (s : Sr) (n : aW) : List aW := if srCk s ≠ 0 ∨ bi n ≠ 0 then [] else ded [] (gA s n)
theorem ded_mem {x : aW} : ∀ {seen l : List aW}, x ∈ ded seen l → x ∈ l ∧ bg x ∉ seen
  | _, [], h => by cases h
  | seen, y :: r, h => by
    rw [ded] at h
    split at h
    · have := ded_mem h; exact ⟨.tail _ this.1, this.2⟩
    · rcases List.mem_cons.1 h with rfl | h
      · exact ⟨.head _, ‹_›⟩
      · have := ded_mem h
        exact ⟨.tail _ this.1, fun q => this.2 (.tail _ q)⟩
theorem ded_dis : ∀ (seen l : List aW), (ded seen l).Pairwise fun x y => bg x ≠ bg y
  | _, [] => .nil
  | seen, y :: r => by
    rw [ded]
    split
    · exact ded_dis seen r
    · exact .cons (fun z hz e => (ded_mem hz).2 (e ▸ .head _)) (ded_dis _ r)
theorem ded_len : ∀ (seen l : List aW), (ded seen l).length ≤ l.length
  | _, [] => Nat.le_refl _
  | seen, y :: r => by
    rw [ded]
    split
    · have := ded_len seen r; simp; omega
    · have := ded_len (bg y :: seen) r; simp; omega
/-- What has been seen behind a part. -/
def dedS : List aW → List aW → List aW
  | seen, [] => seen
  | seen, x :: r => if bg x ∈ seen then dedS seen r else dedS (bg x :: seen) r
theorem gO : ∀ (seen a b : List aW), ded seen (a ++ b) = ded seen a ++ ded (dedS seen a) b
  | _, [], _ => rfl
  | seen, y :: r, b => by
    rw [List.cons_append, ded, ded, dedS]
    split
    · exact gO seen r b
    · rw [gO _ r b]; rfl
theorem dedS_mem {k : aW} : ∀ {seen l : List aW}, k ∈ dedS seen l ↔ k ∈ seen ∨ ∃ x ∈ l, bg x = k
  | seen, [] => by simp [dedS]
  | seen, y :: r => by
    rw [dedS]
    split
    · rw [dedS_mem]
      constructor
      · rintro (h | ⟨x, hx, e⟩)
        · exact .inl h
        · exact .inr ⟨x, .tail _ hx, e⟩
      · rintro (h | ⟨x, hx, e⟩)
        · exact .inl h
        · rcases List.mem_cons.1 hx with rfl | hx
          · exact .inl (e ▸ ‹_›)
          · exact .inr ⟨x, hx, e⟩
    · rw [dedS_mem]
      constructor
      · rintro (h | ⟨x, hx, e⟩)
        · rcases List.mem_cons.1 h with rfl | h
          · exact .inr ⟨y, .head _, rfl⟩
          · exact .inl h
        · exact .inr ⟨x, .tail _ hx, e⟩
      · rintro (h | ⟨x, hx, e⟩)
        · exact .inl (.tail _ h)
        · rcases List.mem_cons.1 hx with rfl | hx
          · exact .inl (e ▸ .head _)
          · exact .inr ⟨x, hx, e⟩
theorem joins_mem {n x : aW} {l : List aW} : x ∈ gx n l ↔ ∃ d ∈ l, joinE n d = 0 ∧ x = n ++ d := by
  simp only [gx, List.mem_map, List.mem_filter, decide_eq_true_eq]
  constructor
  · rintro ⟨d, ⟨h1, h2⟩, rfl⟩; exact ⟨d, h1, h2, rfl⟩
  · rintro ⟨d, h1, h2, rfl⟩; exact ⟨d, ⟨h1, h2⟩, rfl⟩
theorem joins_len (n : aW) (l : List aW) : (gx n l).length ≤ l.length := by
  rw [gx, List.length_map]; exact List.length_filter_le _ _
theorem join_ne {n d : aW} (h : joinE n d = 0) (hd : d ≠ []) : bg (n ++ d) ≠ bg n := fun e => by
  obtain ⟨h1, h2, h3⟩ := joinE_zero.1 h
  have e2 := congrArg List.length e
  rw [foldN_len (gr h), foldN_len h1, List.length_append] at e2
  exact hd (List.length_eq_zero_iff.1 (by omega))
theorem cands_mem {s : Sr} {n x : aW} (h : x ∈ gA s n) : x = n ∨ x ∈ gx n s.doms := by
  unfold gA at h
  split at h
  · left; simpa using h
  · split at h
    · simpa using h
    · rcases List.mem_append.1 h with h | h
      · exact .inr h
      · left; simpa using h
theorem cands_len (s : Sr) (n : aW) : (gA s n).length ≤ s.doms.length + 1 := by
  have := joins_len n s.doms
  unfold gA
  split
  · simp
  · split
    · simp; omega
    · simp; omega
/-- Of a search and a name that may be. -/
structure Ok (s : Sr) (n : aW) : Prop where
  s0 : srCk s = 0
  n0 : bi n = 0
theorem Ok.each {s : Sr} {n : aW} (h : Ok s n) : gW s n = ded [] (gA s n) := by
  rw [gW, if_neg (by rw [h.s0, h.n0]; simp)]
theorem Ok.joinNe {s : Sr} {n x : aW} (h : Ok s n) (hx : x ∈ gx n s.doms) : bg x ≠ bg n := by
  obtain ⟨d, hd, he, rfl⟩ := joins_mem.1 hx
  exact join_ne he ((srCk_zero h.s0).2.1 d hd).2
theorem Ok.xck {s : Sr} {n x : aW} (h : Ok s n) (hx : x ∈ gA s n) : bi x = 0 := by
  rcases cands_mem hx with rfl | hx
  · exact h.n0
  · obtain ⟨d, hd, he, rfl⟩ := joins_mem.1 hx
    exact gr he
theorem Ok.each_own {s : Sr} {n : aW} (h : Ok s n) (ho : ownS s n) : ∃ r, gW s n = n :: r := by
  rw [h.each, gA]
  split
  · exact ⟨[], rfl⟩
  · first | (rw [if_pos ho]; exact ⟨_, rfl⟩) | exact ⟨_, rfl⟩
theorem Ok.each_last {s : Sr} {n : aW} (h : Ok s n) (ho : ¬ ownS s n) : gW s n = ded [] (gx n s.doms) ++ [n] := by
  have hn : n ≠ [] := fun e => ho (.inl e)
  rw [h.each, gA, if_neg hn, if_neg ho, gO]
  congr 1
  rw [ded, if_neg]
  · rfl
  · rw [dedS_mem]
    rintro (h1 | ⟨x, hx, e⟩)
    · cases h1
    · exact h.joinNe hx e
theorem Ok.mem {s : Sr} {n : aW} (h : Ok s n) : n ∈ gW s n := by
  by_cases ho : ownS s n
  · obtain ⟨r, e⟩ := h.each_own ho
    rw [e]; exact .head _
  · rw [h.each_last ho]; simp
theorem Ok.xs {s : Sr} {n x : aW} (h : Ok s n) (hx : x ∈ gW s n) : bi x = 0 ∧ (x = n ∨ ∃ d ∈ s.doms, joinE n d = 0 ∧ x = n ++ d) := by
  rw [h.each] at hx
  have h1 := (ded_mem hx).1
  exact ⟨h.xck h1, (cands_mem h1).imp id joins_mem.1⟩
theorem Ok.dis {s : Sr} {n : aW} (h : Ok s n) : (gW s n).Pairwise fun x y => bg x ≠ bg y := by
  rw [h.each]; exact ded_dis _ _
theorem Ok.len {s : Sr} {n : aW} (h : Ok s n) : (gW s n).length ≤ s.doms.length + 1 := by
  rw [h.each]
  have h1 := ded_len [] (gA s n)
  have h2 := cands_len s n
  omega
/-! Letters. -/
theorem lowS_idem (s : aW) : cG (cG s) = cG s := by simp [cG, lowB_lowB]
theorem en {n : aW} (h : bi n = 0) : bi (bg n) = 0 := by rw [fW h]; exact nameCk_low h
theorem gE {n : aW} (h : bi n = 0) : bg (bg n) = bg n := by
  rw [fW (en h), fW h, lowS_idem]
end Go.Proofs.Ytnpdgmoeoidppaa

/- Lists of entries: where each lies; chunks of chunks that are read. -/
namespace Go.Proofs.Ytnpdgmoeoidppaa
open Go.RowKit Go.Shelf
set_option linter.unusedVariables false
set_option linter.unusedSimpArgs false

/-- Chunks that are read, each of them; they may share blocks. -/
def Ch.rall (L : List Ch) : Ch := ⟨fun b => ∃ c ∈ L, c.ok b, fun w => ∀ c ∈ L, c.P w, fun w w' h hk c hc => c.st w w' (h c hc) fun b hb => hk b ⟨c, hc, hb⟩⟩
theorem dH {L : List Ch} {c : Ch} {w : World} (h : (Ch.rall L).P w ∧ ∀ b, (Ch.rall L).ok b → b < w.heap.size) (hc : c ∈ L) : c.P w ∧ ∀ b, c.ok b → b < w.heap.size := ⟨h.1 c hc, fun b hb => h.2 b ⟨c, hc, hb⟩⟩
theorem bM {L : List Ch} {w : World} (h : Rd L w) : (Ch.rall L).P w ∧ ∀ b, (Ch.rall L).ok b → b < w.heap.size := ⟨fun c hc => (h c hc).1, fun b ⟨c, hc, hb⟩ => (h c hc).2 b hb⟩
theorem Hp.rall0 {ok0 : Nat → Prop} {w0 w : World} {L S : List Ch} (h : Hp ok0 w0 L S w) : Hp ok0 w0 (Ch.rall [] :: L) S w :=
  h.fresh (Upd.refl _ _) _ (fun c hc => nomatch hc) (fun b ⟨c, hc, _⟩ => nomatch hc) (fun b ⟨c, hc, _⟩ => nomatch hc)
/-- One's own chunk is added to those that are read. -/
theorem Hp.intoR {ok0 : Nat → Prop} {w0 w : World} {c c' : Ch} {M L S : List Ch} (h : Hp ok0 w0 (c :: Ch.rall M :: L) S w) (hc : c.P w → c'.P w) (hb : ∀ b, c'.ok b → c.ok b) : Hp ok0 w0 (Ch.rall (M ++ [c']) :: L) S w := by
  have hM : (Ch.rall M).P w := h.own _ (.tail _ (.head _))
  have hc0 : c.P w := h.own _ (.head _)
  have hp := h.dj
  obtain ⟨p1, p2⟩ := List.pairwise_cons.1 hp
  obtain ⟨p3, p4⟩ := List.pairwise_cons.1 p2
  have key : ∀ b, (Ch.rall (M ++ [c'])).ok b → c.ok b ∨ (Ch.rall M).ok b := fun b ⟨d, hd, hdb⟩ => by
    rcases List.mem_append.1 hd with hd | hd
    · exact .inr ⟨d, hd, hdb⟩
    · rw [List.mem_singleton] at hd; subst hd; exact .inl (hb b hdb)
  refine ⟨h.base, ?_, ?_, ?_, ?_, h.sh, h.slt, ?_⟩
  · intro d hd
    rcases List.mem_cons.1 hd with rfl | hd
    · intro d hd
      rcases List.mem_append.1 hd with hd | hd
      · exact hM d hd
      · rw [List.mem_singleton] at hd; subst hd; exact hc hc0
    · exact h.own d (.tail _ (.tail _ hd))
  · intro d hd b hdb
    rcases List.mem_cons.1 hd with rfl | hd
    · exact (key b hdb).elim (h.lt _ (.head _) b) (h.lt _ (.tail _ (.head _)) b)
    · exact h.lt d (.tail _ (.tail _ hd)) b hdb
  · intro d hd b hdb
    rcases List.mem_cons.1 hd with rfl | hd
    · exact (key b hdb).elim (h.ge _ (.head _) b) (h.ge _ (.tail _ (.head _)) b)
    · exact h.ge d (.tail _ (.tail _ hd)) b hdb
  · exact .cons (fun d hd b hb' => (key b hb').elim (p1 d (.tail _ hd) b) (p3 d hd b)) p4
  · intro s hs d hd b hdb
    rcases List.mem_cons.1 hd with rfl | hd
    · exact (key b hdb).elim (h.sdj s hs _ (.head _) b) (h.sdj s hs _ (.tail _ (.head _)) b)
    · exact h.sdj s hs d (.tail _ (.tail _ hd)) b hdb
/-- An entry and where its slices lie. -/
structure Le where
  e : En
  A : Option Addr
  c : Nat
  B : Option Addr
  d : Nat
def dT (x : Le) : List Value := enC x.e x.A x.B x.c x.d
theorem bw : Enc dT 7 := ⟨fun _ => rfl, fun _ => rfl⟩
def fv (x : Le) : List Ch := [Ch.rd x.A 3 gS x.e.addrs, Ch.rd x.B 1 fG x.e.ports]
def en0 : En := ⟨[], 0, [], [], [], [], 0⟩
def bQ : Le := ⟨en0, none, 0, none, 0⟩
theorem sl_rs {A : Option Addr} {n c : Nat} {e : TypeId} {sz : Nat} {cs : List Value} {w : World} : ((Ch.sl A n c e sz cs).P w → (Ch.rs A n sz cs).P w) ∧ ∀ b, (Ch.rs A n sz cs).ok b → (Ch.sl A n c e sz cs).ok b := ⟨SlP.rs, fun b h => h.2⟩
theorem cJ {l : List Le} {x : Le} (h : x ∈ l) : ∀ c ∈ fv x, c ∈ l.flatMap fv := fun c hc => List.mem_flatMap.2 ⟨x, h, hc⟩
theorem elRA (x : Le) : Ch.rd x.A 3 gS x.e.addrs ∈ fv x := .head _
theorem elRB (x : Le) : Ch.rd x.B 1 fG x.e.ports ∈ fv x := .tail _ (.head _)
/-- An entry's own slices are added to those that are read. -/
theorem Hp.intoE {ok0 : Nat → Prop} {w0 w : World} {M L S : List Ch} {e : En} {A B : Option Addr} {c d : Nat} {T1 T2 : TypeId} (h : Hp ok0 w0 (Ch.ls B d T1 1 fG e.ports :: Ch.ls A c T2 3 gS e.addrs :: Ch.rall M :: L) S w) : Hp ok0 w0 (Ch.rall (M ++ fv ⟨e, A, c, B, d⟩) :: L) S w := by
  have h1 := h.perm (List.perm_middle (l₁ := [Ch.ls A c T2 3 gS e.addrs, Ch.rall M]))
  have h2 := Hp.intoR (c' := Ch.rd A 3 gS e.addrs) h1 SlP.rs (fun b hb => hb.2)
  have h3 := Hp.intoR (c' := Ch.rd B 1 fG e.ports) h2.f1 SlP.rs (fun b hb => hb.2)
  rw [List.append_assoc] at h3
  exact h3
end Go.Proofs.Ytnpdgmoeoidppaa

/- Names compared; what lies above a name: plain laws. -/
namespace Go.Proofs.Ytnpdgmoeoidppaa
open Go.RowKit Go.Shelf
set_option linter.unusedVariables false
set_option linter.unusedSimpArgs false

theorem cmpS_anti : ∀ s t : aW, dx t s = - dx s t
  | [], [] => rfl
  | [], _ :: _ => rfl
  | _ :: _, [] => rfl
  | a :: r, b :: t => by
    have ih := cmpS_anti r t
    simp only [dx]
    by_cases h1 : a < b
    · have h2 : ¬ b < a := fun h => UInt8.lt_irrefl _ (UInt8.lt_trans h1 h)
      rw [if_pos h1, if_neg h2, if_pos h1]; rfl
    · by_cases h2 : b < a
      · rw [if_pos h2, if_neg h1, if_pos h2]
      · rw [if_neg h1, if_neg h2, if_neg h2, if_neg h1, ih]
theorem cmpS_trans : ∀ {s t u : aW}, dx s t < 0 → dx t u < 0 → dx s u < 0
  | [], [], _, h, _ => by simp [dx] at h
  | _ :: _, [], _, h, _ => by simp [dx] at h
  | _, _ :: _, [], _, h => by simp [dx] at h
  | [], _ :: _, _ :: _, _, _ => by simp [dx]
  | a :: r, b :: t, c :: u, h1, h2 => by
    simp only [dx] at h1 h2 ⊢
    by_cases ab : a < b
    · by_cases bc : b < c
      · rw [if_pos (UInt8.lt_trans ab bc)]; decide
      · rw [if_neg bc] at h2
        by_cases cb : c < b
        · rw [if_pos cb] at h2; omega
        · have e : b = c := UInt8.le_antisymm (UInt8.not_lt.1 cb) (UInt8.not_lt.1 bc)
          subst e
          rw [if_pos ab]; decide
    · rw [if_neg ab] at h1
      by_cases ba' : b < a
      · rw [if_pos ba'] at h1; omega
      · rw [if_neg ba'] at h1
        have e : a = b := UInt8.le_antisymm (UInt8.not_lt.1 ba') (UInt8.not_lt.1 ab)
        subst e
        by_cases bc : a < c
        · rw [if_pos bc]; decide
        · rw [if_neg bc] at h2 ⊢
          by_cases cb : c < a
          · rw [if_pos cb] at h2; omega
          · rw [if_neg cb] at h2 ⊢
            exact cmpS_trans h1 h2
/-- Rows of labels compared. -/
def c7 : List aW → List aW → Int
  | [], [] => 0
  | [], _ :: _ => -1
  | _ :: _, [] => 1
  | x :: xs, y :: ys => if dx (cG x) (cG y) ≠ 0 then dx (cG x) (cG y) else c7 xs ys
theorem cmpLs_anti : ∀ s t : List aW, c7 t s = - c7 s t
  | [], [] => rfl
  | [], _ :: _ => rfl
  | _ :: _, [] => rfl
  | a :: r, b :: t => by
    have ih := cmpLs_anti r t
    have h := cmpS_anti (cG a) (cG b)
    simp only [c7]
    by_cases h1 : dx (cG a) (cG b) = 0
    · rw [if_neg (by omega), if_neg (by omega), ih]
    · rw [if_pos (by omega), if_pos h1, h]
theorem cmpLs_zero : ∀ {s t : List aW}, c7 s t = 0 ↔ s.map cG = t.map cG
  | [], [] => by simp [c7]
  | [], _ :: _ => by simp [c7]
  | _ :: _, [] => by simp [c7]
  | a :: r, b :: t => by
    have ih := cmpLs_zero (s := r) (t := t)
    simp only [c7, List.map_cons, List.cons.injEq]
    by_cases h1 : dx (cG a) (cG b) = 0
    · rw [if_neg (by omega), ih]; simp [cmpS_zero.1 h1]
    · rw [if_pos h1]
      exact ⟨fun h => absurd h h1, fun h => absurd (cmpS_zero.2 h.1) h1⟩
theorem cmpLs_trans : ∀ {s t u : List aW}, c7 s t < 0 → c7 t u < 0 → c7 s u < 0
  | [], [], _, h, _ => by simp [c7] at h
  | _ :: _, [], _, h, _ => by simp [c7] at h
  | _, _ :: _, [], _, h => by simp [c7] at h
  | [], _ :: _, _ :: _, _, _ => by simp [c7]
  | a :: r, b :: t, c :: u, h1, h2 => by
    simp only [c7] at h1 h2 ⊢
    by_cases ab : dx (cG a) (cG b) = 0
    · rw [if_neg (by omega)] at h1
      rw [cmpS_zero.1 ab]
      by_cases bc : dx (cG b) (cG c) = 0
      · rw [if_neg (by omega)] at h2 ⊢
        exact cmpLs_trans h1 h2
      · rw [if_pos bc] at h2 ⊢; exact h2
    · rw [if_pos ab] at h1
      by_cases bc : dx (cG b) (cG c) = 0
      · rw [← cmpS_zero.1 bc, if_pos ab]; exact h1
      · rw [if_pos bc] at h2
        have := cmpS_trans h1 h2
        rw [if_pos (by omega)]; exact this
/-- name.Compare. -/
def bP (a b : aW) : Int := c7 (bE a).reverse (bE b).reverse
theorem labsN_fold {n : aW} (h : bi n = 0) : bE (bg n) = (bE n).map cG := by
  have hf := en h
  have e1 : bE n = ey n := if_pos h
  have e2 : bE (bg n) = ey (bg n) := if_pos hf
  have h1 : ∀ s ∈ (ey n).map cG, 1 ≤ s.length ∧ s.length ≤ 63 := fun s hs => by
    obtain ⟨t, ht, rfl⟩ := List.mem_map.1 hs
    rw [dv]; exact dW n t ht
  have h2 := (e7 _ h1).2
  rw [fR _ (dW n), eM n (nameCk_zero.1 h).2, ← fW h] at h2
  rw [e1, e2, h2]
theorem fold_labs {a b : aW} (ha : bi a = 0) (hb : bi b = 0) : bg a = bg b ↔ (bE a).map cG = (bE b).map cG := by
  constructor
  · intro h
    rw [← labsN_fold ha, ← labsN_fold hb, h]
  · intro h
    rw [← make_fold, ← make_fold, h]
theorem dm {a b : aW} (ha : bi a = 0) (hb : bi b = 0) : bP a b = 0 ↔ bg a = bg b := by
  rw [bP, cmpLs_zero, List.map_reverse, List.map_reverse, List.reverse_inj, fold_labs ha hb]
theorem dg (a b : aW) : bP b a = - bP a b := cmpLs_anti _ _
theorem c9 {a b c : aW} (h1 : bP a b < 0) (h2 : bP b c < 0) : bP a c < 0 := cmpLs_trans h1 h2
/-! Steps of the loops. -/
theorem fA {s t : List aW} {k : Nat} (hs : k < s.length) (ht : k < t.length) : c7 (s.drop k) (t.drop k) = if dx (cG (s.getD k [])) (cG (t.getD k [])) ≠ 0 then dx (cG (s.getD k [])) (cG (t.getD k [])) else c7 (s.drop (k + 1)) (t.drop (k + 1)) := by
  rw [b4 s [] k hs, b4 t [] k ht, c7]
theorem cmpLs_end {s t : List aW} {k : Nat} (h : k ≤ s.length ∧ k ≤ t.length) (he : k = s.length ∨ k = t.length) : c7 (s.drop k) (t.drop k) = if s.length < t.length then -1 else if t.length < s.length then 1 else 0 := by
  rcases Nat.lt_trichotomy s.length t.length with h1 | h1 | h1
  · rw [if_pos h1]
    have : k = s.length := by omega
    rw [this, List.drop_length, b4 t [] _ h1]; rfl
  · rw [if_neg (by omega), if_neg (by omega)]
    have : k = s.length := by omega
    rw [this, List.drop_length, h1, List.drop_length]; rfl
  · rw [if_neg (by omega), if_pos h1]
    have : k = t.length := by omega
    rw [this, List.drop_length, b4 s [] _ h1]; rfl
theorem rev_getD {l : List aW} {k : Nat} (h : k < l.length) : l.reverse.getD k [] = l.getD (l.length - 1 - k) [] := by
  rw [List.getD_eq_getElem?_getD, List.getD_eq_getElem?_getD, List.getElem?_reverse h]
end Go.Proofs.Ytnpdgmoeoidppaa

/- names compared, above, matched -/
namespace Go.Proofs.Ytnpdgmoeoidppaa
open Go.RowKit Go.Shelf
set_option linter.unusedVariables false
set_option linter.unusedSimpArgs false

theorem ent_135 : Enters Try.prog 135 := enters_of Try.func135 (by kernel_rfl) rfl
theorem ent_85 : Enters Try.prog 85 := enters_of Try.func85 (by kernel_rfl) rfl
theorem ent_86 : Enters Try.prog 86 := enters_of Try.func86 (by kernel_rfl) rfl
theorem ent_87 : Enters Try.prog 87 := enters_of Try.func87 (by kernel_rfl) rfl

theorem c_isNaN (n : Int) : d4 Try.prog 135 #[.int .i64 n] (.bool false) := by
 intro w0
 refine bR (ok0 := no) (S := []) (args := [.int .i64 n]) 6 Try.func135 rfl rfl rfl (by simp) (by simp) ?_
 refine ap ?_
 refine ah ?_
 refine au (aj rfl) rfl rfl ?_
 refine aa ?_
 refine am ?_
 refine ap ?_
 refine ah ?_
 refine au (ak rfl) rfl rfl ?_
 refine au (ak rfl) rfl rfl ?_
 refine au (dA rfl rfl) rfl rfl ?_
 refine au (aj rfl) rfl rfl ?_
 refine aa ?_
 refine am ?_
 refine aU ?_
 refine aX (ts := [2]) rfl rfl rfl (fun w hw => ?_)
 exact ⟨by show Ending.returned (.bool _) = _; congr 2; simp, hw.base⟩

def cmpI (a b : Int) : Int := if a < b then -1 else if b < a then 1 else 0

theorem c_cmpI (a b : Int) : d4 Try.prog 87 #[.int .i64 a, .int .i64 b] (.int .i64 (cmpI a b)) := by
 intro w0
 refine bR (ok0 := no) (S := []) (args := [.int .i64 a, .int .i64 b]) 20 Try.func87 rfl rfl rfl (by simp) (by simp) ?_
 refine ap ?_
 refine ah ?_
 refine au (aj rfl) rfl rfl ?_
 refine aa ?_
 refine am ?_
 refine ap ?_
 refine ah ?_
 refine au (ak rfl) rfl rfl ?_
 refine bL rfl ent_135 (c_isNaN _) rfl ?_
 refine du (t := 8) (.bool false) rfl (congrArg Value.bool rfl) ?_
 refine au (aj rfl) rfl rfl ?_
 refine aa ?_
 refine am ?_
 refine ap ?_
 refine ah ?_
 refine au (ak rfl) rfl rfl ?_
 refine bL rfl ent_135 (c_isNaN _) rfl ?_
 refine du (t := 10) (.bool false) rfl (congrArg Value.bool rfl) ?_
 refine au (aj rfl) rfl rfl ?_
 refine aa ?_
 refine am ?_
 refine ap ?_
 refine ap ?_
 refine ah ?_
 refine au (ak rfl) rfl rfl ?_
 refine aa ?_
 refine am ?_
 refine aK rfl ?_
 refine aZ ?_
 refine am ?_
 refine ap ?_
 refine ap ?_
 refine ah ?_
 refine au (ak rfl) rfl rfl ?_
 refine aa ?_
 refine am ?_
 refine aK rfl ?_
 refine aZ ?_
 refine am ?_
 refine ap ?_
 refine ap ?_
 refine ah ?_
 refine au (ak rfl) rfl rfl ?_
 refine au (ak rfl) rfl rfl ?_
 refine au (cX rfl rfl) rfl rfl ?_
 refine aG (t := 16) rfl (fun h9_2 => ?_) (fun h9_2 => ?_)
 refine aa ?_
 refine am ?_
 refine aI rfl ?_
 refine ap ?_
 refine ah ?_
 refine au (aj rfl) rfl rfl ?_
 refine aa ?_
 refine am ?_
 refine aU ?_
 refine aA ?_
 refine aX (ts := [4]) rfl rfl rfl (fun w hw => ?_)
 refine ⟨?_, hw.base⟩
 show Ending.returned (.int _ _) = _
 congr 2
 focus first
   | (rw [cmpI, if_pos h9_2]
      done)
   | (rw [cmpI, if_neg h9_2, if_pos (by omega)]
      done)
   | (rw [cmpI, if_neg h9_2, if_neg (by omega)]
      done)
 refine aa ?_
 refine am ?_
 refine aK rfl ?_
 refine aZ ?_
 refine am ?_
 refine ap ?_
 refine ap ?_
 refine ah ?_
 refine au (ak rfl) rfl rfl ?_
 refine au (ak rfl) rfl rfl ?_
 refine au (em rfl rfl) rfl rfl ?_
 refine aG (t := 19) rfl (fun h11_2 => ?_) (fun h11_2 => ?_)
 refine aa ?_
 refine am ?_
 refine aI rfl ?_
 refine ap ?_
 refine ah ?_
 refine au (aj rfl) rfl rfl ?_
 refine aa ?_
 refine am ?_
 refine aU ?_
 refine aA ?_
 refine aX (ts := [4]) rfl rfl rfl (fun w hw => ?_)
 refine ⟨?_, hw.base⟩
 show Ending.returned (.int _ _) = _
 congr 2
 focus first
   | (rw [cmpI, if_pos h9_2]
      done)
   | (rw [cmpI, if_neg h9_2, if_pos (by omega)]
      done)
   | (rw [cmpI, if_neg h9_2, if_neg (by omega)]
      done)
 refine aa ?_
 refine am ?_
 refine aK rfl ?_
 refine aZ ?_
 refine am ?_
 refine ap ?_
 refine ah ?_
 refine au (aj rfl) rfl rfl ?_
 refine aa ?_
 refine am ?_
 refine aU ?_
 refine aX (ts := [4]) rfl rfl rfl (fun w hw => ?_)
 refine ⟨?_, hw.base⟩
 show Ending.returned (.int _ _) = _
 congr 2
 focus first
   | (rw [cmpI, if_pos h9_2]
      done)
   | (rw [cmpI, if_neg h9_2, if_pos (by omega)]
      done)
   | (rw [cmpI, if_neg h9_2, if_neg (by omega)]
      done)

/-- A row turned about so far. -/
def cZ (l : List aW) (i : Nat) : List aW := (List.range l.length).map fun p => if p < i ∨ l.length ≤ p + i then l.getD (l.length - 1 - p) [] else l.getD p []
theorem bT (l : List aW) (i : Nat) : (cZ l i).length = l.length := by simp [cZ]
theorem gp {l : List aW} {i p : Nat} (h : p < l.length) : (cZ l i).getD p [] = if p < i ∨ l.length ≤ p + i then l.getD (l.length - 1 - p) [] else l.getD p [] := by
  rw [cZ, List.getD_eq_getElem?_getD, List.getElem?_map, List.getElem?_range h]; rfl
theorem ext_getD {l m : List aW} (h : l.length = m.length) (k : ∀ p, p < l.length → l.getD p [] = m.getD p []) : l = m := by
  apply List.ext_getElem h
  intro p h1 h2
  have := k p h1
  rwa [List.getD_eq_getElem?_getD, List.getD_eq_getElem?_getD, List.getElem?_eq_getElem h1, List.getElem?_eq_getElem h2] at this
theorem revK_zero (l : List aW) : cZ l 0 = l := ext_getD (bT l 0) (fun p hp => by
  rw [bT] at hp
  rw [gp hp, if_neg (by omega)])
theorem revK_end {l : List aW} {i : Nat} (h : l.length ≤ 2 * i + 1) : cZ l i = l.reverse := ext_getD (by rw [bT, List.length_reverse]) (fun p hp => by
  rw [bT] at hp
  rw [gp hp, rev_getD hp]
  split
  · rfl
  · congr 1; omega)
theorem getD_set {l : List aW} {i p : Nat} {v : aW} (hp : p < l.length) : (l.set i v).getD p [] = if i = p then v else l.getD p [] := by
  rw [List.getD_eq_getElem?_getD, List.getElem?_set, List.getD_eq_getElem?_getD]
  split
  · rename_i h; subst h; rw [if_pos hp]; rfl
  · rfl
theorem eJ {l : List aW} {i j : Nat} (hj : i + j + 1 = l.length) (hi : i < j) : ((cZ l i).set i ((cZ l i).getD j [])).set j ((cZ l i).getD i []) = cZ l (i + 1) := ext_getD (by simp [bT]) (fun p hp => by
  simp only [List.length_set, bT] at hp
  rw [getD_set (by simpa [bT] using hp), getD_set (by rw [bT]; exact hp), gp (by omega), gp (by omega), gp hp, gp hp]
  by_cases h1 : j = p
  · subst h1
    rw [if_pos rfl, if_neg (by omega), if_pos (by omega)]
    congr 1; omega
  · rw [if_neg h1]
    by_cases h2 : i = p
    · subst h2
      rw [if_pos rfl, if_neg (by omega), if_pos (by omega)]
      congr 1; omega
    · rw [if_neg h2]
      by_cases h3 : p < i ∨ l.length ≤ p + i
      · rw [if_pos h3, if_pos (by omega)]
      · rw [if_neg h3, if_neg (by omega)])

set_option maxRecDepth 100000 in
theorem c_Reverse (l : List aW) (A : Option Addr) (c : Nat) (hl : l.length ≤ 1000000000) : UC Try.prog 85 #[.slice A l.length c] [] (Ch.ls A c 9 1 er l) (α := Unit) (fun _ => .tuple #[]) (fun _ => Ch.ls A c 9 1 er l.reverse) := by
 refine fI (args := [.slice A l.length c]) 28 Try.func85 rfl rfl rfl (fun w0 => ?_)
 refine ap ?_
 refine ah ?_
 refine au (ak rfl) rfl rfl ?_
 refine au (bu Try.underlying105 rfl) rfl rfl ?_
 refine au (eR rfl rfl (by omega) (by omega)) rfl rfl ?_
 refine au (aj rfl) rfl rfl ?_
 refine au (aj rfl) rfl rfl ?_
 refine aa ?_
 refine am ?_
 refine bk ?_
 refine dZ (σ := Nat × Int) [2, 3, 7, 8, 9, 10, 11, 12, 13, 14, 15, 16, 17, 18, 19, 20, 21, 22, 23, 24, 25, 26, 27] (fun q => 2 * q.1 ≤ l.length + 1 ∧ q.2 = (l.length : Int) - 1 - q.1) (fun q => l.length - q.1) (fun q => [(2, .int .i64 q.1), (3, .int .i64 q.2)]) (fun q => Ch.ls A c 9 1 er (cZ l q.1)) ((0, (l.length : Int) - 1)) ?_ ⟨rfl, rfl, trivial⟩ (by rw [revK_zero]) (fun q hI => ?_)
 exact ⟨by omega, by show (l.length : Int) - 1 = (l.length : Int) - 1 - ((0 : Nat) : Int); omega⟩
 obtain ⟨i, jz⟩ := q
 dsimp only at hI ⊢
 refine ap ?_
 refine ap ?_
 refine ah ?_
 refine au (ak rfl) rfl rfl ?_
 refine au (ak rfl) rfl rfl ?_
 refine au (cX rfl rfl) rfl rfl ?_
 refine aG (t := 9) rfl (fun h1_2 => ?_) (fun h1_2 => ?_)
 have hrl := bT l i
 obtain ⟨j, hj⟩ : ∃ j : Nat, jz = (j : Int) := ⟨jz.toNat, by omega⟩
 subst hj
 refine aa ?_
 refine am ?_
 refine aI rfl ?_
 refine aZ ?_
 refine am ?_
 refine ap ?_
 refine bk ?_
 refine eG 13 rfl mixed ?_
 refine aq (i := 0) rfl ae (ak rfl) aD aD rfl (aC (ai (aV (aC ar)))) (by kernel_rfl) rfl ?_
 refine bO (t := 14) (.slice A (cZ l i).length c) rfl (by simp [bT]) ?_
 refine aq (i := 1) rfl ae (ak rfl) aD aD rfl (aC (ai (aV (aC ar)))) (by kernel_rfl) rfl ?_
 refine aq (i := 4) rfl ae (ak rfl) aD aD rfl (aC (ai (aV (aC ar)))) (by kernel_rfl) rfl ?_
 refine bO (t := 18) (.slice A (cZ l i).length c) rfl (by simp [bT]) ?_
 refine aq (i := 5) rfl ae (ak rfl) aD aD rfl (aC (ai (aV (aC ar)))) (by kernel_rfl) rfl ?_
 refine aq (i := 6) rfl ae (co  Try.underlying105 bK rfl rfl (dS 0 rfl) rfl (by omega)) aD aD rfl (aC (ai (aV (aC ar)))) (by kernel_rfl) rfl ?_
 refine aq (i := 7) rfl ae (cP bm ([] : aW) bK rfl (dS 0 rfl) (by omega) rfl rfl) aD aD rfl (aC (ai (aV (aC ar)))) (by kernel_rfl) rfl ?_
 refine aq (i := 8) rfl ae (ak rfl) aD aD rfl (aC (ai (aV (aC ar)))) (by kernel_rfl) rfl ?_
 refine bO (t := 22) (.slice A (cZ l i).length c) rfl (by simp [bT]) ?_
 refine aq (i := 9) rfl ae (ak rfl) aD aD rfl (aC (ai (aV (aC ar)))) (by kernel_rfl) rfl ?_
 refine aq (i := 10) rfl ae (co  Try.underlying105 bK rfl rfl (dS 0 rfl) rfl (by omega)) aD aD rfl (aC (ai (aV (aC ar)))) (by kernel_rfl) rfl ?_
 refine aq (i := 11) rfl ae (cP bm ([] : aW) bK rfl (dS 0 rfl) (by omega) rfl rfl) aD aD rfl (aC (ai (aV (aC ar)))) (by kernel_rfl) rfl ?_
 refine aq (i := 12) rfl ae (co  Try.underlying105 bK rfl rfl (dS 0 rfl) rfl (by omega)) aD aD rfl (aC (ai (aV (aC ar)))) (by kernel_rfl) rfl ?_
 refine bI (js := [2, 3, 13]) (by kernel_rfl) rfl ?_
 refine aH (i := 2) rfl rfl rfl (fun _ _ _ => az (by kernel_rfl)) rfl ?_ ?_
 refine au (ak rfl) rfl rfl ?_
 refine aa ?_
 refine ax aD ?_
 refine bI (js := [3, 13]) (by kernel_rfl) rfl ?_
 refine aH (i := 3) rfl rfl rfl (fun _ _ _ => az (by kernel_rfl)) rfl ?_ ?_
 refine au (ak rfl) rfl rfl ?_
 refine aa ?_
 refine ax aD ?_
 refine aQ (i := 13) rfl rfl rfl (fun _ _ _ => az (by kernel_rfl)) (by kernel_rfl) rfl ?_
 refine eb bm ([] : aW) ((cZ l i).getD j []) bK rfl rfl rfl .z rfl (by omega) rfl rfl rfl ?_
 refine aa ?_
 refine cE rfl ?_
 refine bO (t := 16) (.slice A ((cZ l i).set i ((cZ l i).getD j [])).length c) rfl (by simp [bT]) ?_
 refine aQ (i := 14) rfl rfl rfl (fun _ _ _ => az (by kernel_rfl)) (by kernel_rfl) rfl ?_
 refine au (co  Try.underlying105 bK rfl rfl (dS 0 rfl) rfl (by simp [bT]; omega)) rfl rfl ?_
 refine aa ?_
 refine cE rfl ?_
 refine aQ (i := 15) rfl rfl rfl (fun _ _ _ => az (by kernel_rfl)) (by kernel_rfl) rfl ?_
 refine eb bm ([] : aW) ((cZ l i).getD i []) bK rfl rfl rfl .z rfl (by simp [bT]; omega) rfl rfl rfl ?_
 refine aa ?_
 refine cE rfl ?_
 refine b0 (by kernel_rfl) ?_
 refine bV ?_
 refine am ?_
 refine ah ?_
 refine au (ak rfl) rfl rfl ?_
 refine au (cr rfl rfl (by omega) (by omega)) rfl rfl ?_
 refine au (ak rfl) rfl rfl ?_
 refine au (eR rfl rfl (by omega) (by omega)) rfl rfl ?_
 refine au (aj rfl) rfl rfl ?_
 refine au (aj rfl) rfl rfl ?_
 refine aa ?_
 refine cn ((i + 1, (j : Int) - 1)) ?_ ?_ ⟨rfl, rfl, trivial⟩ (by repeat (first | exact trivial | refine ⟨rfl, ?_⟩)) (fun w h => by show Hp _ _ (Ch.ls _ _ _ _ _ (cZ l (i + 1)) :: _) _ _; rw [← eJ (l := l) (i := i) (j := j) (by omega) (by omega)]; exact h)
 exact ⟨by show 2 * (i + 1) ≤ _; omega, by show (j : Int) - 1 = _; omega⟩
 show l.length - (i + 1) < l.length - i
 omega
 refine aH (i := 13) rfl rfl rfl (fun _ _ _ => az (by kernel_rfl)) rfl ?_ ?_
 refine eb bm ([] : aW) ((cZ l i).getD j []) bK rfl rfl rfl .z rfl (by omega) rfl rfl rfl ?_
 refine aa ?_
 refine cE rfl ?_
 refine aQ (i := 3) rfl rfl rfl (fun _ _ _ => az (by kernel_rfl)) (by kernel_rfl) rfl ?_
 refine au (ak rfl) rfl rfl ?_
 refine aa ?_
 refine cE rfl ?_
 refine bO (t := 16) (.slice A ((cZ l i).set i ((cZ l i).getD j [])).length c) rfl (by simp [bT]) ?_
 refine aQ (i := 14) rfl rfl rfl (fun _ _ _ => az (by kernel_rfl)) (by kernel_rfl) rfl ?_
 refine au (co  Try.underlying105 bK rfl rfl (dS 0 rfl) rfl (by simp [bT]; omega)) rfl rfl ?_
 refine aa ?_
 refine cE rfl ?_
 refine aQ (i := 15) rfl rfl rfl (fun _ _ _ => az (by kernel_rfl)) (by kernel_rfl) rfl ?_
 refine eb bm ([] : aW) ((cZ l i).getD i []) bK rfl rfl rfl .z rfl (by simp [bT]; omega) rfl rfl rfl ?_
 refine aa ?_
 refine cE rfl ?_
 refine b0 (by kernel_rfl) ?_
 refine bV ?_
 refine am ?_
 refine ah ?_
 refine au (ak rfl) rfl rfl ?_
 refine au (cr rfl rfl (by omega) (by omega)) rfl rfl ?_
 refine au (ak rfl) rfl rfl ?_
 refine au (eR rfl rfl (by omega) (by omega)) rfl rfl ?_
 refine au (aj rfl) rfl rfl ?_
 refine au (aj rfl) rfl rfl ?_
 refine aa ?_
 refine cn ((i + 1, (j : Int) - 1)) ?_ ?_ ⟨rfl, rfl, trivial⟩ (by repeat (first | exact trivial | refine ⟨rfl, ?_⟩)) (fun w h => by show Hp _ _ (Ch.ls _ _ _ _ _ (cZ l (i + 1)) :: _) _ _; rw [← eJ (l := l) (i := i) (j := j) (by omega) (by omega)]; exact h)
 exact ⟨by show 2 * (i + 1) ≤ _; omega, by show (j : Int) - 1 = _; omega⟩
 show l.length - (i + 1) < l.length - i
 omega
 exact br
 refine aH (i := 3) rfl rfl rfl (fun _ _ _ => az (by kernel_rfl)) rfl ?_ ?_
 refine au (ak rfl) rfl rfl ?_
 refine aa ?_
 refine ax aD ?_
 refine bI (js := [2, 13]) (by kernel_rfl) rfl ?_
 refine aH (i := 2) rfl rfl rfl (fun _ _ _ => az (by kernel_rfl)) rfl ?_ ?_
 refine au (ak rfl) rfl rfl ?_
 refine aa ?_
 refine ax aD ?_
 refine aQ (i := 13) rfl rfl rfl (fun _ _ _ => az (by kernel_rfl)) (by kernel_rfl) rfl ?_
 refine eb bm ([] : aW) ((cZ l i).getD j []) bK rfl rfl rfl .z rfl (by omega) rfl rfl rfl ?_
 refine aa ?_
 refine cE rfl ?_
 refine bO (t := 16) (.slice A ((cZ l i).set i ((cZ l i).getD j [])).length c) rfl (by simp [bT]) ?_
 refine aQ (i := 14) rfl rfl rfl (fun _ _ _ => az (by kernel_rfl)) (by kernel_rfl) rfl ?_
 refine au (co  Try.underlying105 bK rfl rfl (dS 0 rfl) rfl (by simp [bT]; omega)) rfl rfl ?_
 refine aa ?_
 refine cE rfl ?_
 refine aQ (i := 15) rfl rfl rfl (fun _ _ _ => az (by kernel_rfl)) (by kernel_rfl) rfl ?_
 refine eb bm ([] : aW) ((cZ l i).getD i []) bK rfl rfl rfl .z rfl (by simp [bT]; omega) rfl rfl rfl ?_
 refine aa ?_
 refine cE rfl ?_
 refine b0 (by kernel_rfl) ?_
 refine bV ?_
 refine am ?_
 refine ah ?_
 refine au (ak rfl) rfl rfl ?_
 refine au (cr rfl rfl (by omega) (by omega)) rfl rfl ?_
 refine au (ak rfl) rfl rfl ?_
 refine au (eR rfl rfl (by omega) (by omega)) rfl rfl ?_
 refine au (aj rfl) rfl rfl ?_
 refine au (aj rfl) rfl rfl ?_
 refine aa ?_
 refine cn ((i + 1, (j : Int) - 1)) ?_ ?_ ⟨rfl, rfl, trivial⟩ (by repeat (first | exact trivial | refine ⟨rfl, ?_⟩)) (fun w h => by show Hp _ _ (Ch.ls _ _ _ _ _ (cZ l (i + 1)) :: _) _ _; rw [← eJ (l := l) (i := i) (j := j) (by omega) (by omega)]; exact h)
 exact ⟨by show 2 * (i + 1) ≤ _; omega, by show (j : Int) - 1 = _; omega⟩
 show l.length - (i + 1) < l.length - i
 omega
 refine aH (i := 13) rfl rfl rfl (fun _ _ _ => az (by kernel_rfl)) rfl ?_ ?_
 refine eb bm ([] : aW) ((cZ l i).getD j []) bK rfl rfl rfl .z rfl (by omega) rfl rfl rfl ?_
 refine aa ?_
 refine cE rfl ?_
 refine aQ (i := 2) rfl rfl rfl (fun _ _ _ => az (by kernel_rfl)) (by kernel_rfl) rfl ?_
 refine au (ak rfl) rfl rfl ?_
 refine aa ?_
 refine cE rfl ?_
 refine bO (t := 16) (.slice A ((cZ l i).set i ((cZ l i).getD j [])).length c) rfl (by simp [bT]) ?_
 refine aQ (i := 14) rfl rfl rfl (fun _ _ _ => az (by kernel_rfl)) (by kernel_rfl) rfl ?_
 refine au (co  Try.underlying105 bK rfl rfl (dS 0 rfl) rfl (by simp [bT]; omega)) rfl rfl ?_
 refine aa ?_
 refine cE rfl ?_
 refine aQ (i := 15) rfl rfl rfl (fun _ _ _ => az (by kernel_rfl)) (by kernel_rfl) rfl ?_
 refine eb bm ([] : aW) ((cZ l i).getD i []) bK rfl rfl rfl .z rfl (by simp [bT]; omega) rfl rfl rfl ?_
 refine aa ?_
 refine cE rfl ?_
 refine b0 (by kernel_rfl) ?_
 refine bV ?_
 refine am ?_
 refine ah ?_
 refine au (ak rfl) rfl rfl ?_
 refine au (cr rfl rfl (by omega) (by omega)) rfl rfl ?_
 refine au (ak rfl) rfl rfl ?_
 refine au (eR rfl rfl (by omega) (by omega)) rfl rfl ?_
 refine au (aj rfl) rfl rfl ?_
 refine au (aj rfl) rfl rfl ?_
 refine aa ?_
 refine cn ((i + 1, (j : Int) - 1)) ?_ ?_ ⟨rfl, rfl, trivial⟩ (by repeat (first | exact trivial | refine ⟨rfl, ?_⟩)) (fun w h => by show Hp _ _ (Ch.ls _ _ _ _ _ (cZ l (i + 1)) :: _) _ _; rw [← eJ (l := l) (i := i) (j := j) (by omega) (by omega)]; exact h)
 exact ⟨by show 2 * (i + 1) ≤ _; omega, by show (j : Int) - 1 = _; omega⟩
 show l.length - (i + 1) < l.length - i
 omega
 exact br
 refine aH (i := 13) rfl rfl rfl (fun _ _ _ => az (by kernel_rfl)) rfl ?_ ?_
 refine eb bm ([] : aW) ((cZ l i).getD j []) bK rfl rfl rfl .z rfl (by omega) rfl rfl rfl ?_
 refine aa ?_
 refine cE rfl ?_
 refine bI (js := [2, 3]) (by kernel_rfl) rfl ?_
 refine aH (i := 2) rfl rfl rfl (fun _ _ _ => az (by kernel_rfl)) rfl ?_ ?_
 refine au (ak rfl) rfl rfl ?_
 refine aa ?_
 refine cE rfl ?_
 refine aQ (i := 3) rfl rfl rfl (fun _ _ _ => az (by kernel_rfl)) (by kernel_rfl) rfl ?_
 refine au (ak rfl) rfl rfl ?_
 refine aa ?_
 refine cE rfl ?_
 refine bO (t := 16) (.slice A ((cZ l i).set i ((cZ l i).getD j [])).length c) rfl (by simp [bT]) ?_
 refine aQ (i := 14) rfl rfl rfl (fun _ _ _ => az (by kernel_rfl)) (by kernel_rfl) rfl ?_
 refine au (co  Try.underlying105 bK rfl rfl (dS 0 rfl) rfl (by simp [bT]; omega)) rfl rfl ?_
 refine aa ?_
 refine cE rfl ?_
 refine aQ (i := 15) rfl rfl rfl (fun _ _ _ => az (by kernel_rfl)) (by kernel_rfl) rfl ?_
 refine eb bm ([] : aW) ((cZ l i).getD i []) bK rfl rfl rfl .z rfl (by simp [bT]; omega) rfl rfl rfl ?_
 refine aa ?_
 refine cE rfl ?_
 refine b0 (by kernel_rfl) ?_
 refine bV ?_
 refine am ?_
 refine ah ?_
 refine au (ak rfl) rfl rfl ?_
 refine au (cr rfl rfl (by omega) (by omega)) rfl rfl ?_
 refine au (ak rfl) rfl rfl ?_
 refine au (eR rfl rfl (by omega) (by omega)) rfl rfl ?_
 refine au (aj rfl) rfl rfl ?_
 refine au (aj rfl) rfl rfl ?_
 refine aa ?_
 refine cn ((i + 1, (j : Int) - 1)) ?_ ?_ ⟨rfl, rfl, trivial⟩ (by repeat (first | exact trivial | refine ⟨rfl, ?_⟩)) (fun w h => by show Hp _ _ (Ch.ls _ _ _ _ _ (cZ l (i + 1)) :: _) _ _; rw [← eJ (l := l) (i := i) (j := j) (by omega) (by omega)]; exact h)
 exact ⟨by show 2 * (i + 1) ≤ _; omega, by show (j : Int) - 1 = _; omega⟩
 show l.length - (i + 1) < l.length - i
 omega
 refine aH (i := 3) rfl rfl rfl (fun _ _ _ => az (by kernel_rfl)) rfl ?_ ?_
 refine au (ak rfl) rfl rfl ?_
 refine aa ?_
 refine cE rfl ?_
 refine aQ (i := 2) rfl rfl rfl (fun _ _ _ => az (by kernel_rfl)) (by kernel_rfl) rfl ?_
 refine au (ak rfl) rfl rfl ?_
 refine aa ?_
 refine cE rfl ?_
 refine bO (t := 16) (.slice A ((cZ l i).set i ((cZ l i).getD j [])).length c) rfl (by simp [bT]) ?_
 refine aQ (i := 14) rfl rfl rfl (fun _ _ _ => az (by kernel_rfl)) (by kernel_rfl) rfl ?_
 refine au (co  Try.underlying105 bK rfl rfl (dS 0 rfl) rfl (by simp [bT]; omega)) rfl rfl ?_
 refine aa ?_
 refine cE rfl ?_
 refine aQ (i := 15) rfl rfl rfl (fun _ _ _ => az (by kernel_rfl)) (by kernel_rfl) rfl ?_
 refine eb bm ([] : aW) ((cZ l i).getD i []) bK rfl rfl rfl .z rfl (by simp [bT]; omega) rfl rfl rfl ?_
 refine aa ?_
 refine cE rfl ?_
 refine b0 (by kernel_rfl) ?_
 refine bV ?_
 refine am ?_
 refine ah ?_
 refine au (ak rfl) rfl rfl ?_
 refine au (cr rfl rfl (by omega) (by omega)) rfl rfl ?_
 refine au (ak rfl) rfl rfl ?_
 refine au (eR rfl rfl (by omega) (by omega)) rfl rfl ?_
 refine au (aj rfl) rfl rfl ?_
 refine au (aj rfl) rfl rfl ?_
 refine aa ?_
 refine cn ((i + 1, (j : Int) - 1)) ?_ ?_ ⟨rfl, rfl, trivial⟩ (by repeat (first | exact trivial | refine ⟨rfl, ?_⟩)) (fun w h => by show Hp _ _ (Ch.ls _ _ _ _ _ (cZ l (i + 1)) :: _) _ _; rw [← eJ (l := l) (i := i) (j := j) (by omega) (by omega)]; exact h)
 exact ⟨by show 2 * (i + 1) ≤ _; omega, by show (j : Int) - 1 = _; omega⟩
 show l.length - (i + 1) < l.length - i
 omega
 exact br
 exact br
 refine aa ?_
 refine am ?_
 refine aK rfl ?_
 refine cB ?_
 refine bl ?_
 refine bq ?_
 refine bA ?_
 refine e_end (ts := []) rfl rfl rfl (fun w hw => ?_)
 obtain ⟨h1, h2, h3⟩ := (show Hp _ _ [Ch.ls A c 9 1 er (cZ l i)] _ _ from hw).uc
 have he : cZ l i = l.reverse := revK_end (by omega)
 rw [he] at h2 h3
 exact ⟨(), rfl, h1, h2, h3⟩

theorem cmpI_len (a b : Nat) : cmpI (a : Int) (b : Int) = if a < b then -1 else if b < a then 1 else 0 := by
  unfold cmpI
  by_cases h1 : a < b
  · rw [if_pos h1, if_pos (by omega)]
  · rw [if_neg h1, if_neg (by omega)]
    by_cases h2 : b < a
    · rw [if_pos h2, if_pos (by omega)]
    · rw [if_neg h2, if_neg (by omega)]
theorem cmpN_end {a b : aW} {k : Nat} (h : bP a b = c7 ((bE a).reverse.drop k) ((bE b).reverse.drop k)) (h1 : k ≤ (bE a).length) (h2 : k ≤ (bE b).length) (he : k = (bE a).length ∨ k = (bE b).length) : bP a b = cmpI ((bE a).length : Int) ((bE b).length : Int) := by
  rw [h, cmpLs_end (by simp; omega) (by simpa using he), List.length_reverse, List.length_reverse, cmpI_len]

theorem c_name_Compare (a b : aW) (ha : a.length ≤ 1000000000) (hb : b.length ≤ 1000000000) : RC Try.prog 47 #[.string (ba a), .string (ba b)] [] (α := Unit) (fun _ => .int .i64 (bP a b)) (fun _ => []) := by
 refine bZ (args := [.string (ba a), .string (ba b)]) 44 Try.func47 rfl rfl rfl (fun w0 => ?_)
 have hra : (bE a).reverse.length = (bE a).length := List.length_reverse
 have hrb : (bE b).reverse.length = (bE b).length := List.length_reverse
 have hla := labsN_le a (by omega)
 have hlb := labsN_le b (by omega)
 have hxa : ∀ s ∈ (bE a).reverse, s.length ≤ 1000000000000 := fun s hs => by have := hla.2.1 s (List.mem_reverse.1 hs); omega
 have hxb : ∀ s ∈ (bE b).reverse, s.length ≤ 1000000000000 := fun s hs => by have := hlb.2.1 s (List.mem_reverse.1 hs); omega
 have hxa2 : ∀ s ∈ bE a, s.length ≤ 1000000000000 := fun s hs => by have := hla.2.1 s hs; omega
 have hxb2 : ∀ s ∈ bE b, s.length ≤ 1000000000000 := fun s hs => by have := hlb.2.1 s hs; omega
 refine ap ?_
 refine ah ?_
 refine au (aj rfl) rfl rfl ?_
 refine aa ?_
 refine am ?_
 refine ap ?_
 refine ah ?_
 refine au (ak rfl) rfl rfl ?_
 refine cY rfl ent_84 rfl (fe _) (fun w hw => aM) (fun ⟨A0, c0⟩ => ?_)
 refine au (ak rfl) rfl rfl ?_
 refine cY rfl ent_84 rfl (fe _) (fun w hw => aM) (fun ⟨A1, c1⟩ => ?_)
 refine au (aj rfl) rfl rfl ?_
 refine au (aj rfl) rfl rfl ?_
 refine aa ?_
 refine am ?_
 refine ap ?_
 refine ah ?_
 refine au (ak rfl) rfl rfl ?_
 refine eE rfl ent_85 rfl (c_Reverse _ _ _ (by omega)) (fun o => (.s (.z))) (List.mem_of_getElem? (i := 1) rfl) (fun s hs => nomatch hs) (fun o2 => ?_)
 refine aa ?_
 refine am ?_
 refine ap ?_
 refine ah ?_
 refine au (ak rfl) rfl rfl ?_
 refine eE rfl ent_85 rfl (c_Reverse _ _ _ (by omega)) (fun o => .z) (List.mem_of_getElem? (i := 0) rfl) (fun s hs => nomatch hs) (fun o3 => ?_)
 refine aa ?_
 refine am ?_
 refine ap ?_
 refine ap ?_
 refine ah ?_
 refine au (ak rfl) rfl rfl ?_
 refine du (t := 18) (.slice A0 (bE a).reverse.length c0) rfl (by rw [List.length_reverse]) ?_
 refine au (bu Try.underlying105 rfl) rfl rfl ?_
 refine au (ak rfl) rfl rfl ?_
 refine aa ?_
 refine am ?_
 refine bk ?_
 refine dd (σ := Nat) [4, 7, 8, 9, 20, 21, 22, 23, 24, 25, 26, 27, 28, 29, 30, 31, 32, 33, 34, 35, 36, 37, 38] (fun k => k ≤ (bE a).length ∧ k ≤ (bE b).length ∧ bP a b = c7 ((bE a).reverse.drop k) ((bE b).reverse.drop k)) (fun k => (bE a).length - k) (fun k => [(20, .int .i64 k)]) (0) ?_ ⟨rfl, trivial⟩ (fun k hI => ?_)
 exact ⟨Nat.zero_le _, Nat.zero_le _, rfl⟩
 refine ap ?_
 refine ah ?_
 refine au (cX rfl rfl) rfl rfl ?_
 refine aG (t := 21) rfl (fun h5_0 => ?_) (fun h5_0 => ?_)
 refine aa ?_
 refine am ?_
 refine ap ?_
 refine aI rfl ?_
 refine aZ ?_
 refine am ?_
 refine ap ?_
 refine bk ?_
 refine ap ?_
 refine ah ?_
 refine au (ak rfl) rfl rfl ?_
 refine au (co  Try.underlying105 bK rfl rfl (dS 1 rfl) rfl (by simp; omega)) rfl rfl ?_
 refine au (cP bm ([] : aW) bK rfl (dS 1 rfl) (by simp; omega) rfl rfl) rfl rfl ?_
 refine au (aj rfl) rfl rfl ?_
 refine au (aj rfl) rfl rfl ?_
 refine aa ?_
 refine am ?_
 refine ap ?_
 refine ap ?_
 refine ah ?_
 refine au (ak rfl) rfl rfl ?_
 refine au (ak rfl) rfl rfl ?_
 refine au (bu Try.underlying105 rfl) rfl rfl ?_
 refine au (bW rfl rfl) rfl rfl ?_
 refine aG (t := 28) rfl (fun h7_3 => ?_) (fun h7_3 => ?_)
 refine aa ?_
 refine am ?_
 refine aI rfl ?_
 refine cB ?_
 refine bl ?_
 refine dQ rfl ?_
 refine bl ?_
 refine bq ?_
 refine bA ?_
 refine am ?_
 refine ap ?_
 refine ah ?_
 refine au (ak rfl) rfl rfl ?_
 refine au (bu Try.underlying105 rfl) rfl rfl ?_
 refine au (ak rfl) rfl rfl ?_
 refine au (bu Try.underlying105 rfl) rfl rfl ?_
 refine bL rfl ent_87 (c_cmpI _ _) rfl ?_
 refine au (aj rfl) rfl rfl ?_
 refine aa ?_
 refine am ?_
 refine aU ?_
 refine aX (ts := [4]) rfl rfl rfl (fun w hw => ?_)
 focus first
   | (have he : bP a b = dx (cG ((bE a).reverse.getD k [])) (cG ((bE b).reverse.getD k [])) := by rw [hI.2.2, fA (s := (bE a).reverse) (t := (bE b).reverse) (k := k) (by simp; omega) (by simp; omega), if_pos h9_1]
      exact ⟨(), by rw [he]; rfl, hw.base, (hw.weak (List.nil_sublist _) (fun s hs => hs)).toNews⟩)
   | (have he := cmpN_end hI.2.2 hI.1 hI.2.1 (by omega)
      exact ⟨(), by rw [he]; rfl, hw.base, (hw.weak (List.nil_sublist _) (fun s hs => hs)).toNews⟩)
   | (trace_state; fail)
 refine aa ?_
 refine am ?_
 refine aK rfl ?_
 refine aZ ?_
 refine am ?_
 refine ap ?_
 refine ah ?_
 refine au (ak rfl) rfl rfl ?_
 refine au (ak rfl) rfl rfl ?_
 refine du (t := 30) (.slice A1 (bE b).reverse.length c1) rfl (by rw [List.length_reverse]) ?_
 refine au (ak rfl) rfl rfl ?_
 refine au (co  Try.underlying105 bK rfl rfl (dS 0 rfl) rfl (by simp; omega)) rfl rfl ?_
 refine au (cP bm ([] : aW) bK rfl (dS 0 rfl) (by simp; omega) rfl rfl) rfl rfl ?_
 refine bL rfl ent_86 (c_label_Compare _ _ (hxa _ (bD (by simp; omega))) (hxb _ (bD (by simp; omega)))) rfl ?_
 refine au (aj rfl) rfl rfl ?_
 refine aa ?_
 refine am ?_
 refine ap ?_
 refine ah ?_
 refine au (ak rfl) rfl rfl ?_
 refine au (dA rfl rfl) rfl rfl ?_
 refine aG (t := 36) rfl (fun h9_1 => ?_) (fun h9_1 => ?_)
 refine aa ?_
 refine am ?_
 refine aI rfl ?_
 refine ap ?_
 refine ah ?_
 refine au (ak rfl) rfl rfl ?_
 refine au (aj rfl) rfl rfl ?_
 refine aa ?_
 refine am ?_
 refine aU ?_
 refine aO ?_
 refine aA ?_
 refine bG ?_
 refine aO ?_
 refine aA ?_
 refine aX (ts := [4]) rfl rfl rfl (fun w hw => ?_)
 focus first
   | (have he : bP a b = dx (cG ((bE a).reverse.getD k [])) (cG ((bE b).reverse.getD k [])) := by rw [hI.2.2, fA (s := (bE a).reverse) (t := (bE b).reverse) (k := k) (by simp; omega) (by simp; omega), if_pos h9_1]
      exact ⟨(), by rw [he]; rfl, hw.base, (hw.weak (List.nil_sublist _) (fun s hs => hs)).toNews⟩)
   | (have he := cmpN_end hI.2.2 hI.1 hI.2.1 (by omega)
      exact ⟨(), by rw [he]; rfl, hw.base, (hw.weak (List.nil_sublist _) (fun s hs => hs)).toNews⟩)
   | (trace_state; fail)
 refine aa ?_
 refine am ?_
 refine aK rfl ?_
 refine aZ ?_
 refine bV ?_
 refine am ?_
 refine ah ?_
 refine au (cr rfl rfl (by omega) (by omega)) rfl rfl ?_
 refine au (ak rfl) rfl rfl ?_
 refine aa ?_
 refine cn (k + 1) ?_ ?_ ⟨rfl, trivial⟩ (by repeat (first | exact trivial | refine ⟨rfl, ?_⟩)) aD
 exact ⟨by omega, by omega, by rw [hI.2.2, fA (s := (bE a).reverse) (t := (bE b).reverse) (k := k) (by simp; omega) (by simp; omega), if_neg h9_1]⟩
 omega
 refine aa ?_
 refine am ?_
 refine ap ?_
 refine aK rfl ?_
 refine cB ?_
 refine bl ?_
 refine bq ?_
 refine bA ?_
 refine am ?_
 refine ap ?_
 refine ah ?_
 refine au (ak rfl) rfl rfl ?_
 refine au (bu Try.underlying105 rfl) rfl rfl ?_
 refine au (ak rfl) rfl rfl ?_
 refine au (bu Try.underlying105 rfl) rfl rfl ?_
 refine bL rfl ent_87 (c_cmpI _ _) rfl ?_
 refine au (aj rfl) rfl rfl ?_
 refine aa ?_
 refine am ?_
 refine aU ?_
 refine aX (ts := [4]) rfl rfl rfl (fun w hw => ?_)
 focus first
   | (have he : bP a b = dx (cG ((bE a).reverse.getD k [])) (cG ((bE b).reverse.getD k [])) := by rw [hI.2.2, fA (s := (bE a).reverse) (t := (bE b).reverse) (k := k) (by simp; omega) (by simp; omega), if_pos h9_1]
      exact ⟨(), by rw [he]; rfl, hw.base, (hw.weak (List.nil_sublist _) (fun s hs => hs)).toNews⟩)
   | (have he := cmpN_end hI.2.2 hI.1 hI.2.1 (by omega)
      exact ⟨(), by rw [he]; rfl, hw.base, (hw.weak (List.nil_sublist _) (fun s hs => hs)).toNews⟩)
   | (trace_state; fail)

theorem d0 (a b : aW) (ha : a.length ≤ 1000000000) (hb : b.length ≤ 1000000000) : d4 Try.prog 47 #[.string (ba a), .string (ba b)] (.int .i64 (bP a b)) := rc_pure (c_name_Compare a b ha hb)

end Go.Proofs.Ytnpdgmoeoidppaa

/- search: each candidate once; the laws of candidates -/
namespace Go.Proofs.Ytnpdgmoeoidppaa
open Go.RowKit Go.Shelf
set_option linter.unusedVariables false
set_option linter.unusedSimpArgs false

theorem ty_25 : TyI Try.prog 25 false 1 24 (.slice none 0 0) := TyI.mk' (by kernel_rfl) (fun _ => by kernel_rfl)

def namesE (s : Sr) (n : aW) : Int := if srCk s ≠ 0 then srCk s else bi n
end Go.Proofs.Ytnpdgmoeoidppaa
