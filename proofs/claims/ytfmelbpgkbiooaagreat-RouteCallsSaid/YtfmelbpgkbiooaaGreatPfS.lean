import Derived.Test.YtfmelbpgkbiooaaGreatPcS
import Derived.Test.YtfmelbpgkbiooaaGreatLlS
import Derived.Test.YtfmelbpgkbiooaaGreatCmS
/- Search: plain laws. -/
namespace Go.Proofs.YtfmelbpgkbiooaaGreat
open Go.RowKit Go.Shelf
set_option linter.unusedVariables false
set_option linter.unusedSimpArgs false

/-- A search. -/
structure Sr where
  ndots : Int
  doms : List Str
def domsCk : List Str → Int
  | [] => 0
  | d :: r => if nameCk d ≠ 0 then nameCk d else domsCk r
theorem domsCk_zero : ∀ {l : List Str}, domsCk l = 0 ↔ ∀ d ∈ l, nameCk d = 0
  | [] => by simp [domsCk]
  | d :: r => by
    rw [domsCk]
    by_cases h : nameCk d ≠ 0
    · rw [if_pos h]; simp [h]
    · rw [if_neg h, domsCk_zero]
      have : nameCk d = 0 := by omega
      simp [this]
def srCk (s : Sr) : Int := if 6 < s.doms.length then 3 else if domsCk s.doms ≠ 0 then domsCk s.doms else if ([] : Str) ∈ s.doms ∨ s.ndots < 0 ∨ 15 < s.ndots then 2 else 0
theorem srCk_zero {s : Sr} (h : srCk s = 0) : s.doms.length ≤ 6 ∧ (∀ d ∈ s.doms, nameCk d = 0 ∧ d ≠ []) ∧ 0 ≤ s.ndots ∧ s.ndots ≤ 15 := by
  unfold srCk at h
  split at h
  · omega
  · split at h
    · omega
    · rename_i h1 h2
      split at h
      · omega
      · rename_i h3
        have h4 := domsCk_zero.1 (show domsCk s.doms = 0 by omega)
        refine ⟨by omega, fun d hd => ⟨h4 d hd, fun e => h3 (.inl (e ▸ hd))⟩, ?_, ?_⟩
        · by_cases q : 0 ≤ s.ndots
          · exact q
          · exact absurd (.inr (.inl (by omega))) h3
        · by_cases q : s.ndots ≤ 15
          · exact q
          · exact absurd (.inr (.inr (by omega))) h3
/-- name.Join. -/
def joinE (a b : Str) : Int := if nameCk a ≠ 0 then nameCk a else if nameCk b ≠ 0 then nameCk b else if 254 < a.length + b.length then 3 else 0
theorem joinE_zero {a b : Str} : joinE a b = 0 ↔ nameCk a = 0 ∧ nameCk b = 0 ∧ a.length + b.length ≤ 254 := by
  unfold joinE
  by_cases h1 : nameCk a = 0
  · by_cases h2 : nameCk b = 0
    · rw [if_neg (by omega), if_neg (by omega)]
      by_cases h3 : 254 < a.length + b.length
      · rw [if_pos h3]; simp; omega
      · rw [if_neg h3]; simp [h1, h2]; omega
    · rw [if_neg (by omega), if_pos h2]; simp [h1, h2]
  · rw [if_pos h1]; simp [h1]
theorem okN_append {a b : Str} (ha : okN a = true) (hb : okN b = true) : okN (a ++ b) = true := by
  have h := (okN_of_encn (labs a ++ labs b) (fun s hs => (List.mem_append.1 hs).elim (labs_ok a s) (labs_ok b s))).1
  rw [encn_append, okN_encn a ha, okN_encn b hb] at h
  exact h
theorem nameCk_append {a b : Str} (h : joinE a b = 0) : nameCk (a ++ b) = 0 := by
  obtain ⟨h1, h2, h3⟩ := joinE_zero.1 h
  exact nameCk_zero.2 ⟨by rw [List.length_append]; omega, okN_append (nameCk_zero.1 h1).2 (nameCk_zero.1 h2).2⟩
theorem foldN_eq {n : Str} (h : nameCk n = 0) : foldN n = lowS n := if_pos h
theorem foldN_len {n : Str} (h : nameCk n = 0) : (foldN n).length = n.length := by rw [foldN_eq h, lowS_length]
/-- The domains joined. -/
def joins (n : Str) (l : List Str) : List Str := (l.filter fun d => decide (joinE n d = 0)).map fun d => n ++ d
def ownS (s : Sr) (n : Str) : Prop := n = [] ∨ s.ndots ≤ ((labsN n).length : Int) - 1
instance (s : Sr) (n : Str) : Decidable (ownS s n) := by unfold ownS; infer_instance
/-- The candidates, some of them twice. -/
def cands (s : Sr) (n : Str) : List Str := if n = [] then [n] else if ownS s n then n :: joins n s.doms else joins n s.doms ++ [n]
/-- Each once. -/
def ded : List Str → List Str → List Str
  | _, [] => []
  | seen, x :: r => if foldN x ∈ seen then ded seen r else x :: ded (foldN x :: seen) r
def eachS (s : Sr) (n : Str) : List Str := if srCk s ≠ 0 ∨ nameCk n ≠ 0 then [] else ded [] (cands s n)
theorem ded_mem {x : Str} : ∀ {seen l : List Str}, x ∈ ded seen l → x ∈ l ∧ foldN x ∉ seen
  | _, [], h => by cases h
  | seen, y :: r, h => by
    rw [ded] at h
    split at h
    · have := ded_mem h; exact ⟨.tail _ this.1, this.2⟩
    · rcases List.mem_cons.1 h with rfl | h
      · exact ⟨.head _, ‹_›⟩
      · have := ded_mem h
        exact ⟨.tail _ this.1, fun q => this.2 (.tail _ q)⟩
theorem ded_dis : ∀ (seen l : List Str), (ded seen l).Pairwise fun x y => foldN x ≠ foldN y
  | _, [] => .nil
  | seen, y :: r => by
    rw [ded]
    split
    · exact ded_dis seen r
    · exact .cons (fun z hz e => (ded_mem hz).2 (e ▸ .head _)) (ded_dis _ r)
theorem ded_len : ∀ (seen l : List Str), (ded seen l).length ≤ l.length
  | _, [] => Nat.le_refl _
  | seen, y :: r => by
    rw [ded]
    split
    · have := ded_len seen r; simp; omega
    · have := ded_len (foldN y :: seen) r; simp; omega
/-- What has been seen behind a part. -/
def dedS : List Str → List Str → List Str
  | seen, [] => seen
  | seen, x :: r => if foldN x ∈ seen then dedS seen r else dedS (foldN x :: seen) r
theorem ded_append : ∀ (seen a b : List Str), ded seen (a ++ b) = ded seen a ++ ded (dedS seen a) b
  | _, [], _ => rfl
  | seen, y :: r, b => by
    rw [List.cons_append, ded, ded, dedS]
    split
    · exact ded_append seen r b
    · rw [ded_append _ r b]; rfl
theorem dedS_mem {k : Str} : ∀ {seen l : List Str}, k ∈ dedS seen l ↔ k ∈ seen ∨ ∃ x ∈ l, foldN x = k
  | seen, [] => by simp [dedS]
  | seen, y :: r => by
    rw [dedS]
    split
    · rw [dedS_mem]
      constructor
      · rintro (h | ⟨x, hx, e⟩)
        · exact .inl h
        · exact .inr ⟨x, .tail _ hx, e⟩
      · rintro (h | ⟨x, hx, e⟩)
        · exact .inl h
        · rcases List.mem_cons.1 hx with rfl | hx
          · exact .inl (e ▸ ‹_›)
          · exact .inr ⟨x, hx, e⟩
    · rw [dedS_mem]
      constructor
      · rintro (h | ⟨x, hx, e⟩)
        · rcases List.mem_cons.1 h with rfl | h
          · exact .inr ⟨y, .head _, rfl⟩
          · exact .inl h
        · exact .inr ⟨x, .tail _ hx, e⟩
      · rintro (h | ⟨x, hx, e⟩)
        · exact .inl (.tail _ h)
        · rcases List.mem_cons.1 hx with rfl | hx
          · exact .inl (e ▸ .head _)
          · exact .inr ⟨x, hx, e⟩
theorem joins_mem {n x : Str} {l : List Str} : x ∈ joins n l ↔ ∃ d ∈ l, joinE n d = 0 ∧ x = n ++ d := by
  simp only [joins, List.mem_map, List.mem_filter, decide_eq_true_eq]
  constructor
  · rintro ⟨d, ⟨h1, h2⟩, rfl⟩; exact ⟨d, h1, h2, rfl⟩
  · rintro ⟨d, h1, h2, rfl⟩; exact ⟨d, ⟨h1, h2⟩, rfl⟩
theorem joins_len (n : Str) (l : List Str) : (joins n l).length ≤ l.length := by
  rw [joins, List.length_map]; exact List.length_filter_le _ _
theorem join_ne {n d : Str} (h : joinE n d = 0) (hd : d ≠ []) : foldN (n ++ d) ≠ foldN n := fun e => by
  obtain ⟨h1, h2, h3⟩ := joinE_zero.1 h
  have e2 := congrArg List.length e
  rw [foldN_len (nameCk_append h), foldN_len h1, List.length_append] at e2
  exact hd (List.length_eq_zero_iff.1 (by omega))
theorem cands_mem {s : Sr} {n x : Str} (h : x ∈ cands s n) : x = n ∨ x ∈ joins n s.doms := by
  unfold cands at h
  split at h
  · left; simpa using h
  · split at h
    · simpa using h
    · rcases List.mem_append.1 h with h | h
      · exact .inr h
      · left; simpa using h
theorem cands_len (s : Sr) (n : Str) : (cands s n).length ≤ s.doms.length + 1 := by
  have := joins_len n s.doms
  unfold cands
  split
  · simp
  · split
    · simp; omega
    · simp; omega
/-- Of a search and a name that may be. -/
structure Ok (s : Sr) (n : Str) : Prop where
  s0 : srCk s = 0
  n0 : nameCk n = 0
theorem Ok.each {s : Sr} {n : Str} (h : Ok s n) : eachS s n = ded [] (cands s n) := by
  rw [eachS, if_neg (by rw [h.s0, h.n0]; simp)]
theorem Ok.joinNe {s : Sr} {n x : Str} (h : Ok s n) (hx : x ∈ joins n s.doms) : foldN x ≠ foldN n := by
  obtain ⟨d, hd, he, rfl⟩ := joins_mem.1 hx
  exact join_ne he ((srCk_zero h.s0).2.1 d hd).2
theorem Ok.xck {s : Sr} {n x : Str} (h : Ok s n) (hx : x ∈ cands s n) : nameCk x = 0 := by
  rcases cands_mem hx with rfl | hx
  · exact h.n0
  · obtain ⟨d, hd, he, rfl⟩ := joins_mem.1 hx
    exact nameCk_append he
theorem Ok.each_own {s : Sr} {n : Str} (h : Ok s n) (ho : ownS s n) : ∃ r, eachS s n = n :: r := by
  rw [h.each, cands]
  split
  · exact ⟨[], rfl⟩
  · first | (rw [if_pos ho]; exact ⟨_, rfl⟩) | exact ⟨_, rfl⟩
theorem Ok.each_last {s : Sr} {n : Str} (h : Ok s n) (ho : ¬ ownS s n) : eachS s n = ded [] (joins n s.doms) ++ [n] := by
  have hn : n ≠ [] := fun e => ho (.inl e)
  rw [h.each, cands, if_neg hn, if_neg ho, ded_append]
  congr 1
  rw [ded, if_neg]
  · rfl
  · rw [dedS_mem]
    rintro (h1 | ⟨x, hx, e⟩)
    · cases h1
    · exact h.joinNe hx e
theorem Ok.mem {s : Sr} {n : Str} (h : Ok s n) : n ∈ eachS s n := by
  by_cases ho : ownS s n
  · obtain ⟨r, e⟩ := h.each_own ho
    rw [e]; exact .head _
  · rw [h.each_last ho]; simp
theorem Ok.xs {s : Sr} {n x : Str} (h : Ok s n) (hx : x ∈ eachS s n) : nameCk x = 0 ∧ (x = n ∨ ∃ d ∈ s.doms, joinE n d = 0 ∧ x = n ++ d) := by
  rw [h.each] at hx
  have h1 := (ded_mem hx).1
  exact ⟨h.xck h1, (cands_mem h1).imp id joins_mem.1⟩
theorem Ok.dis {s : Sr} {n : Str} (h : Ok s n) : (eachS s n).Pairwise fun x y => foldN x ≠ foldN y := by
  rw [h.each]; exact ded_dis _ _
theorem Ok.len {s : Sr} {n : Str} (h : Ok s n) : (eachS s n).length ≤ s.doms.length + 1 := by
  rw [h.each]
  have h1 := ded_len [] (cands s n)
  have h2 := cands_len s n
  omega
/-! Letters. -/
theorem nameCk_fold {n : Str} (h : nameCk n = 0) : nameCk (foldN n) = 0 := by rw [foldN_eq h]; exact nameCk_low h
end Go.Proofs.YtfmelbpgkbiooaaGreat

/- Lists of entries: where each lies; chunks of chunks that are read. -/
namespace Go.Proofs.YtfmelbpgkbiooaaGreat
open Go.RowKit Go.Shelf
set_option linter.unusedVariables false
set_option linter.unusedSimpArgs false

/-- Chunks that are read, each of them; they may share blocks. -/
def Ch.rall (L : List Ch) : Ch := ⟨fun b => ∃ c ∈ L, c.ok b, fun w => ∀ c ∈ L, c.P w, fun w w' h hk c hc => c.st w w' (h c hc) fun b hb => hk b ⟨c, hc, hb⟩⟩
theorem rd_all {L : List Ch} {c : Ch} {w : World} (h : (Ch.rall L).P w ∧ ∀ b, (Ch.rall L).ok b → b < w.heap.size) (hc : c ∈ L) : c.P w ∧ ∀ b, c.ok b → b < w.heap.size := ⟨h.1 c hc, fun b hb => h.2 b ⟨c, hc, hb⟩⟩
theorem rd_rall {L : List Ch} {w : World} (h : Rd L w) : (Ch.rall L).P w ∧ ∀ b, (Ch.rall L).ok b → b < w.heap.size := ⟨fun c hc => (h c hc).1, fun b ⟨c, hc, hb⟩ => (h c hc).2 b hb⟩
theorem Hp.rall0 {ok0 : Nat → Prop} {w0 w : World} {L S : List Ch} (h : Hp ok0 w0 L S w) : Hp ok0 w0 (Ch.rall [] :: L) S w :=
  h.fresh (Upd.refl _ _) _ (fun c hc => nomatch hc) (fun b ⟨c, hc, _⟩ => nomatch hc) (fun b ⟨c, hc, _⟩ => nomatch hc)
/-- One's own chunk is added to those that are read. -/
theorem Hp.intoR {ok0 : Nat → Prop} {w0 w : World} {c c' : Ch} {M L S : List Ch} (h : Hp ok0 w0 (c :: Ch.rall M :: L) S w) (hc : c.P w → c'.P w) (hb : ∀ b, c'.ok b → c.ok b) : Hp ok0 w0 (Ch.rall (M ++ [c']) :: L) S w := by
  have hM : (Ch.rall M).P w := h.own _ (.tail _ (.head _))
  have hc0 : c.P w := h.own _ (.head _)
  have hp := h.dj
  obtain ⟨p1, p2⟩ := List.pairwise_cons.1 hp
  obtain ⟨p3, p4⟩ := List.pairwise_cons.1 p2
  have key : ∀ b, (Ch.rall (M ++ [c'])).ok b → c.ok b ∨ (Ch.rall M).ok b := fun b ⟨d, hd, hdb⟩ => by
    rcases List.mem_append.1 hd with hd | hd
    · exact .inr ⟨d, hd, hdb⟩
    · rw [List.mem_singleton] at hd; subst hd; exact .inl (hb b hdb)
  refine ⟨h.base, ?_, ?_, ?_, ?_, h.sh, h.slt, ?_⟩
  · intro d hd
    rcases List.mem_cons.1 hd with rfl | hd
    · intro d hd
      rcases List.mem_append.1 hd with hd | hd
      · exact hM d hd
      · rw [List.mem_singleton] at hd; subst hd; exact hc hc0
    · exact h.own d (.tail _ (.tail _ hd))
  · intro d hd b hdb
    rcases List.mem_cons.1 hd with rfl | hd
    · exact (key b hdb).elim (h.lt _ (.head _) b) (h.lt _ (.tail _ (.head _)) b)
    · exact h.lt d (.tail _ (.tail _ hd)) b hdb
  · intro d hd b hdb
    rcases List.mem_cons.1 hd with rfl | hd
    · exact (key b hdb).elim (h.ge _ (.head _) b) (h.ge _ (.tail _ (.head _)) b)
    · exact h.ge d (.tail _ (.tail _ hd)) b hdb
  · exact .cons (fun d hd b hb' => (key b hb').elim (p1 d (.tail _ hd) b) (p3 d hd b)) p4
  · intro s hs d hd b hdb
    rcases List.mem_cons.1 hd with rfl | hd
    · exact (key b hdb).elim (h.sdj s hs _ (.head _) b) (h.sdj s hs _ (.tail _ (.head _)) b)
    · exact h.sdj s hs d (.tail _ (.tail _ hd)) b hdb
/-- All of one's own chunks as one. -/
theorem Hp.toRall {ok0 : Nat → Prop} {w0 w : World} {L M S : List Ch} (h : Hp ok0 w0 L S w) (hP : (∀ c ∈ L, c.P w) → ∀ d ∈ M, d.P w) (hok : ∀ d ∈ M, ∀ b, d.ok b → ∃ c ∈ L, c.ok b) : Hp ok0 w0 [Ch.rall M] S w := by
  have key : ∀ b, (Ch.rall M).ok b → ∃ c ∈ L, c.ok b := fun b ⟨d, hd, hb⟩ => hok d hd b hb
  refine ⟨h.base, ?_, ?_, ?_, List.pairwise_singleton _ _, h.sh, h.slt, ?_⟩
  · intro c hc
    rw [List.mem_singleton] at hc; subst hc
    exact hP h.own
  · intro c hc b hb
    rw [List.mem_singleton] at hc; subst hc
    obtain ⟨d, hd, hdb⟩ := key b hb
    exact h.lt d hd b hdb
  · intro c hc b hb
    rw [List.mem_singleton] at hc; subst hc
    obtain ⟨d, hd, hdb⟩ := key b hb
    exact h.ge d hd b hdb
  · intro s hs c hc b hb
    rw [List.mem_singleton] at hc; subst hc
    obtain ⟨d, hd, hdb⟩ := key b hb
    exact h.sdj s hs d hd b hdb
/-- An entry and where its slices lie. -/
structure Le where
  e : En
  A : Option Addr
  c : Nat
  B : Option Addr
  d : Nat
def elC (x : Le) : List Value := enC x.e x.A x.B x.c x.d
theorem enc_le : Enc elC 7 := ⟨fun _ => rfl, fun _ => rfl⟩
def elR (x : Le) : List Ch := [Ch.rd x.A 3 adC x.e.addrs, Ch.rd x.B 1 enci x.e.ports]
def en0 : En := ⟨[], 0, [], [], [], [], 0⟩
def le0 : Le := ⟨en0, none, 0, none, 0⟩
theorem elR0 : ∀ c ∈ elR le0, ∀ w : World, c.P w ∧ ∀ b, c.ok b → b < w.heap.size := by
  intro c hc w
  simp only [elR, List.mem_cons, List.not_mem_nil, or_false] at hc
  rcases hc with rfl | rfl
  · exact ⟨⟨by simp [le0, en0, fl], (by simp [le0, en0, fl]), .inl rfl⟩, fun b hb => by simp [Ch.rs, le0, en0] at hb⟩
  · exact ⟨⟨by simp [le0, en0, fl], (by simp [le0, en0, fl]), .inl rfl⟩, fun b hb => by simp [Ch.rs, le0, en0] at hb⟩
theorem mem_flatR {l : List Le} {x : Le} (h : x ∈ l) : ∀ c ∈ elR x, c ∈ l.flatMap elR := fun c hc => List.mem_flatMap.2 ⟨x, h, hc⟩
theorem elRA (x : Le) : Ch.rd x.A 3 adC x.e.addrs ∈ elR x := .head _
theorem elRB (x : Le) : Ch.rd x.B 1 enci x.e.ports ∈ elR x := .tail _ (.head _)
/-- An entry's own slices are added to those that are read. -/
theorem Hp.intoE {ok0 : Nat → Prop} {w0 w : World} {M L S : List Ch} {e : En} {A B : Option Addr} {c d : Nat} {T1 T2 : TypeId} (h : Hp ok0 w0 (Ch.ls B d T1 1 enci e.ports :: Ch.ls A c T2 3 adC e.addrs :: Ch.rall M :: L) S w) : Hp ok0 w0 (Ch.rall (M ++ elR ⟨e, A, c, B, d⟩) :: L) S w := by
  have h1 := h.perm (List.perm_middle (l₁ := [Ch.ls A c T2 3 adC e.addrs, Ch.rall M]))
  have h2 := Hp.intoR (c' := Ch.rd A 3 adC e.addrs) h1 SlP.rs (fun b hb => hb.2)
  have h3 := Hp.intoR (c' := Ch.rd B 1 enci e.ports) h2.f1 SlP.rs (fun b hb => hb.2)
  rw [List.append_assoc] at h3
  exact h3
end Go.Proofs.YtfmelbpgkbiooaaGreat

/- search: joins, checks, candidates -/
namespace Go.Proofs.YtfmelbpgkbiooaaGreat
open Go.RowKit Go.Shelf
set_option linter.unusedVariables false
set_option linter.unusedSimpArgs false

def same2 (a b : Str) : Bool := decide (nameCk a = 0) && decide (nameCk b = 0) && decide (foldN a = foldN b)

theorem c_ref02_Same (a b : Str) (ha : a.length ≤ 1000000000) (hb : b.length ≤ 1000000000) : Pure Tryz.prog 66 #[.string (ba a), .string (ba b)] (.bool (same2 a b)) := by
 intro w0
 refine calls_of_W (ok0 := no) (S := []) (args := [.string (ba a), .string (ba b)]) 20 Tryz.func66 rfl rfl rfl (by simp) (by simp) ?_
 refine w_seq ?_
 refine w_region ?_
 refine o_y (y_assign rfl) rfl rfl ?_
 refine wl_nil ?_
 refine e_seq ?_
 refine w_seq ?_
 refine w_region ?_
 refine o_y (y_move rfl) rfl rfl ?_
 refine o_callp rfl ent_83 (c_ref02_Check _) rfl ?_
 refine o_y (y_eql rfl rfl) rfl rfl ?_
 refine wl_splitp (t := 7) rfl (fun h1_2 => ?_) (fun h1_2 => ?_)
 refine o_y (y_move rfl) rfl rfl ?_
 refine wl_gyes rfl rfl ?_
 refine o_y (y_move rfl) rfl rfl ?_
 refine wl_gyes rfl rfl ?_
 refine o_callp rfl ent_83 (c_ref02_Check _) rfl ?_
 refine wl_gyes rfl rfl ?_
 refine o_y (y_eql rfl rfl) rfl rfl ?_
 refine wl_splitp (t := 11) rfl (fun h1_6 => ?_) (fun h1_6 => ?_)
 refine o_y (y_pick_t rfl rfl) rfl rfl ?_
 refine o_y (y_move rfl) rfl rfl ?_
 refine wl_gyes rfl rfl ?_
 refine o_y (y_move rfl) rfl rfl ?_
 refine wl_gyes rfl rfl ?_
 refine o_callp rfl ent_85 (p_ref02_Fold _ (by omega)) rfl ?_
 refine wl_gyes rfl rfl ?_
 refine o_y (y_move rfl) rfl rfl ?_
 refine wl_gyes rfl rfl ?_
 refine o_callp rfl ent_85 (p_ref02_Fold _ (by omega)) rfl ?_
 refine wl_gyes rfl rfl ?_
 refine o_y (y_eqls rfl rfl) rfl rfl ?_
 refine o_y (y_pick_t rfl rfl) rfl rfl ?_
 refine o_y (y_assign rfl) rfl rfl ?_
 refine wl_nil ?_
 refine e_seq ?_
 refine w_ret ?_
 refine e_ret (ts := [4]) rfl rfl rfl (fun w hw => ?_)
 refine ⟨?_, hw.base⟩
 show Ending.returned (.bool _) = _
 congr 2
 simp [same2, *]
 refine o_y (y_pick_t rfl rfl) rfl rfl ?_
 refine o_y (y_move rfl) rfl rfl ?_
 refine wl_gno rfl rfl rfl rfl ?_
 refine wl_gno rfl rfl rfl rfl ?_
 refine wl_gno rfl rfl rfl rfl ?_
 refine wl_gno rfl rfl rfl rfl ?_
 refine wl_gno rfl rfl rfl rfl ?_
 refine o_y (y_pick_f rfl rfl) rfl rfl ?_
 refine o_y (y_assign rfl) rfl rfl ?_
 refine wl_nil ?_
 refine e_seq ?_
 refine w_ret ?_
 refine e_ret (ts := [4]) rfl rfl rfl (fun w hw => ?_)
 refine ⟨?_, hw.base⟩
 show Ending.returned (.bool _) = _
 congr 2
 simp [same2, *]
 refine o_y (y_move rfl) rfl rfl ?_
 refine wl_gno rfl rfl rfl rfl ?_
 refine wl_gno rfl rfl rfl rfl ?_
 refine wl_gno rfl rfl rfl rfl ?_
 refine o_y (y_pick_f rfl rfl) rfl rfl ?_
 refine o_y (y_move rfl) rfl rfl ?_
 refine wl_gno rfl rfl rfl rfl ?_
 refine wl_gno rfl rfl rfl rfl ?_
 refine wl_gno rfl rfl rfl rfl ?_
 refine wl_gno rfl rfl rfl rfl ?_
 refine wl_gno rfl rfl rfl rfl ?_
 refine o_y (y_pick_f rfl rfl) rfl rfl ?_
 refine o_y (y_assign rfl) rfl rfl ?_
 refine wl_nil ?_
 refine e_seq ?_
 refine w_ret ?_
 refine e_ret (ts := [4]) rfl rfl rfl (fun w hw => ?_)
 refine ⟨?_, hw.base⟩
 show Ending.returned (.bool _) = _
 congr 2
 simp [same2, *]

end Go.Proofs.YtfmelbpgkbiooaaGreat

/- Names compared; what lies above a name: plain laws. -/
namespace Go.Proofs.YtfmelbpgkbiooaaGreat
open Go.RowKit Go.Shelf
set_option linter.unusedVariables false
set_option linter.unusedSimpArgs false

theorem cmpS_anti : ∀ s t : Str, cmpS t s = - cmpS s t
  | [], [] => rfl
  | [], _ :: _ => rfl
  | _ :: _, [] => rfl
  | a :: r, b :: t => by
    have ih := cmpS_anti r t
    simp only [cmpS]
    by_cases h1 : a < b
    · have h2 : ¬ b < a := fun h => UInt8.lt_irrefl _ (UInt8.lt_trans h1 h)
      rw [if_pos h1, if_neg h2, if_pos h1]; rfl
    · by_cases h2 : b < a
      · rw [if_pos h2, if_neg h1, if_pos h2]
      · rw [if_neg h1, if_neg h2, if_neg h2, if_neg h1, ih]
theorem cmpS_trans : ∀ {s t u : Str}, cmpS s t < 0 → cmpS t u < 0 → cmpS s u < 0
  | [], [], _, h, _ => by simp [cmpS] at h
  | _ :: _, [], _, h, _ => by simp [cmpS] at h
  | _, _ :: _, [], _, h => by simp [cmpS] at h
  | [], _ :: _, _ :: _, _, _ => by simp [cmpS]
  | a :: r, b :: t, c :: u, h1, h2 => by
    simp only [cmpS] at h1 h2 ⊢
    by_cases ab : a < b
    · by_cases bc : b < c
      · rw [if_pos (UInt8.lt_trans ab bc)]; decide
      · rw [if_neg bc] at h2
        by_cases cb : c < b
        · rw [if_pos cb] at h2; omega
        · have e : b = c := UInt8.le_antisymm (UInt8.not_lt.1 cb) (UInt8.not_lt.1 bc)
          subst e
          rw [if_pos ab]; decide
    · rw [if_neg ab] at h1
      by_cases ba' : b < a
      · rw [if_pos ba'] at h1; omega
      · rw [if_neg ba'] at h1
        have e : a = b := UInt8.le_antisymm (UInt8.not_lt.1 ba') (UInt8.not_lt.1 ab)
        subst e
        by_cases bc : a < c
        · rw [if_pos bc]; decide
        · rw [if_neg bc] at h2 ⊢
          by_cases cb : c < a
          · rw [if_pos cb] at h2; omega
          · rw [if_neg cb] at h2 ⊢
            exact cmpS_trans h1 h2
/-- Rows of labels compared. -/
def cmpLs : List Str → List Str → Int
  | [], [] => 0
  | [], _ :: _ => -1
  | _ :: _, [] => 1
  | x :: xs, y :: ys => if cmpS (lowS x) (lowS y) ≠ 0 then cmpS (lowS x) (lowS y) else cmpLs xs ys
theorem cmpLs_anti : ∀ s t : List Str, cmpLs t s = - cmpLs s t
  | [], [] => rfl
  | [], _ :: _ => rfl
  | _ :: _, [] => rfl
  | a :: r, b :: t => by
    have ih := cmpLs_anti r t
    have h := cmpS_anti (lowS a) (lowS b)
    simp only [cmpLs]
    by_cases h1 : cmpS (lowS a) (lowS b) = 0
    · rw [if_neg (by omega), if_neg (by omega), ih]
    · rw [if_pos (by omega), if_pos h1, h]
theorem cmpLs_zero : ∀ {s t : List Str}, cmpLs s t = 0 ↔ s.map lowS = t.map lowS
  | [], [] => by simp [cmpLs]
  | [], _ :: _ => by simp [cmpLs]
  | _ :: _, [] => by simp [cmpLs]
  | a :: r, b :: t => by
    have ih := cmpLs_zero (s := r) (t := t)
    simp only [cmpLs, List.map_cons, List.cons.injEq]
    by_cases h1 : cmpS (lowS a) (lowS b) = 0
    · rw [if_neg (by omega), ih]; simp [cmpS_zero.1 h1]
    · rw [if_pos h1]
      exact ⟨fun h => absurd h h1, fun h => absurd (cmpS_zero.2 h.1) h1⟩
theorem cmpLs_trans : ∀ {s t u : List Str}, cmpLs s t < 0 → cmpLs t u < 0 → cmpLs s u < 0
  | [], [], _, h, _ => by simp [cmpLs] at h
  | _ :: _, [], _, h, _ => by simp [cmpLs] at h
  | _, _ :: _, [], _, h => by simp [cmpLs] at h
  | [], _ :: _, _ :: _, _, _ => by simp [cmpLs]
  | a :: r, b :: t, c :: u, h1, h2 => by
    simp only [cmpLs] at h1 h2 ⊢
    by_cases ab : cmpS (lowS a) (lowS b) = 0
    · rw [if_neg (by omega)] at h1
      rw [cmpS_zero.1 ab]
      by_cases bc : cmpS (lowS b) (lowS c) = 0
      · rw [if_neg (by omega)] at h2 ⊢
        exact cmpLs_trans h1 h2
      · rw [if_pos bc] at h2 ⊢; exact h2
    · rw [if_pos ab] at h1
      by_cases bc : cmpS (lowS b) (lowS c) = 0
      · rw [← cmpS_zero.1 bc, if_pos ab]; exact h1
      · rw [if_pos bc] at h2
        have := cmpS_trans h1 h2
        rw [if_pos (by omega)]; exact this
/-- name.Compare. -/
def cmpN (a b : Str) : Int := cmpLs (labsN a).reverse (labsN b).reverse
theorem labsN_fold {n : Str} (h : nameCk n = 0) : labsN (foldN n) = (labsN n).map lowS := by
  have hf := nameCk_fold h
  have e1 : labsN n = labs n := if_pos h
  have e2 : labsN (foldN n) = labs (foldN n) := if_pos hf
  have h1 : ∀ s ∈ (labs n).map lowS, 1 ≤ s.length ∧ s.length ≤ 63 := fun s hs => by
    obtain ⟨t, ht, rfl⟩ := List.mem_map.1 hs
    rw [lowS_length]; exact labs_ok n t ht
  have h2 := (okN_of_encn _ h1).2
  rw [encn_low _ (labs_ok n), okN_encn n (nameCk_zero.1 h).2, ← foldN_eq h] at h2
  rw [e1, e2, h2]
theorem fold_labs {a b : Str} (ha : nameCk a = 0) (hb : nameCk b = 0) : foldN a = foldN b ↔ (labsN a).map lowS = (labsN b).map lowS := by
  constructor
  · intro h
    rw [← labsN_fold ha, ← labsN_fold hb, h]
  · intro h
    rw [← make_fold, ← make_fold, h]
theorem cmpN_zero {a b : Str} (ha : nameCk a = 0) (hb : nameCk b = 0) : cmpN a b = 0 ↔ foldN a = foldN b := by
  rw [cmpN, cmpLs_zero, List.map_reverse, List.map_reverse, List.reverse_inj, fold_labs ha hb]
theorem cmpN_anti (a b : Str) : cmpN b a = - cmpN a b := cmpLs_anti _ _
theorem cmpN_trans {a b c : Str} (h1 : cmpN a b < 0) (h2 : cmpN b c < 0) : cmpN a c < 0 := cmpLs_trans h1 h2
/-! Steps of the loops. -/
theorem cmpS_step {s t : Str} {k : Nat} (hs : k < s.length) (ht : k < t.length) : cmpS (s.drop k) (t.drop k) = if bt s k < bt t k then -1 else if bt t k < bt s k then 1 else cmpS (s.drop (k + 1)) (t.drop (k + 1)) := by
  rw [drop_getD s 0 k hs, drop_getD t 0 k ht, cmpS]
  rfl
theorem cmpS_end {s t : Str} {k : Nat} (h : k ≤ s.length ∧ k ≤ t.length) (he : k = s.length ∨ k = t.length) : cmpS (s.drop k) (t.drop k) = if s.length < t.length then -1 else if t.length < s.length then 1 else 0 := by
  rcases Nat.lt_trichotomy s.length t.length with h1 | h1 | h1
  · rw [if_pos h1]
    have : k = s.length := by omega
    rw [this, List.drop_length, drop_getD t 0 _ h1]; rfl
  · rw [if_neg (by omega), if_neg (by omega)]
    have : k = s.length := by omega
    rw [this, List.drop_length, h1, List.drop_length]; rfl
  · rw [if_neg (by omega), if_pos h1]
    have : k = t.length := by omega
    rw [this, List.drop_length, drop_getD s 0 _ h1]; rfl
theorem cmpLs_step {s t : List Str} {k : Nat} (hs : k < s.length) (ht : k < t.length) : cmpLs (s.drop k) (t.drop k) = if cmpS (lowS (s.getD k [])) (lowS (t.getD k [])) ≠ 0 then cmpS (lowS (s.getD k [])) (lowS (t.getD k [])) else cmpLs (s.drop (k + 1)) (t.drop (k + 1)) := by
  rw [drop_getD s [] k hs, drop_getD t [] k ht, cmpLs]
theorem cmpLs_end {s t : List Str} {k : Nat} (h : k ≤ s.length ∧ k ≤ t.length) (he : k = s.length ∨ k = t.length) : cmpLs (s.drop k) (t.drop k) = if s.length < t.length then -1 else if t.length < s.length then 1 else 0 := by
  rcases Nat.lt_trichotomy s.length t.length with h1 | h1 | h1
  · rw [if_pos h1]
    have : k = s.length := by omega
    rw [this, List.drop_length, drop_getD t [] _ h1]; rfl
  · rw [if_neg (by omega), if_neg (by omega)]
    have : k = s.length := by omega
    rw [this, List.drop_length, h1, List.drop_length]; rfl
  · rw [if_neg (by omega), if_pos h1]
    have : k = t.length := by omega
    rw [this, List.drop_length, drop_getD s [] _ h1]; rfl
theorem rev_getD {l : List Str} {k : Nat} (h : k < l.length) : l.reverse.getD k [] = l.getD (l.length - 1 - k) [] := by
  rw [List.getD_eq_getElem?_getD, List.getD_eq_getElem?_getD, List.getElem?_reverse h]
end Go.Proofs.YtfmelbpgkbiooaaGreat
