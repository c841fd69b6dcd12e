import Derived.Test.YtnpdgmoeoidppaaCkQb
import Derived.Test.YtnpdgmoeoidppaaPcQb
import Derived.Test.YtnpdgmoeoidppaaPeQb
/- Lists of entries: where each lies; chunks of chunks that are read. -/
namespace Go.Proofs.Ytnpdgmoeoidppaa
open Go.RowKit Go.Shelf
set_option linter.unusedVariables false
set_option linter.unusedSimpArgs false

/-- Chunks that are read, each of them; they may share blocks. -/
def Ch.rall (L : List Ch) : Ch := ⟨fun b => ∃ c ∈ L, c.ok b, fun w => ∀ c ∈ L, c.P w, fun w w' h hk c hc => c.st w w' (h c hc) fun b hb => hk b ⟨c, hc, hb⟩⟩
theorem c9 {L : List Ch} {c : Ch} {w : World} (h : (Ch.rall L).P w ∧ ∀ b, (Ch.rall L).ok b → b < w.heap.size) (hc : c ∈ L) : c.P w ∧ ∀ b, c.ok b → b < w.heap.size := ⟨h.1 c hc, fun b hb => h.2 b ⟨c, hc, hb⟩⟩
theorem bo {L : List Ch} {w : World} (h : Rd L w) : (Ch.rall L).P w ∧ ∀ b, (Ch.rall L).ok b → b < w.heap.size := ⟨fun c hc => (h c hc).1, fun b ⟨c, hc, hb⟩ => (h c hc).2 b hb⟩
theorem Hp.rall0 {ok0 : Nat → Prop} {w0 w : World} {L S : List Ch} (h : Hp ok0 w0 L S w) : Hp ok0 w0 (Ch.rall [] :: L) S w :=
  h.fresh (Upd.refl _ _) _ (fun c hc => nomatch hc) (fun b ⟨c, hc, _⟩ => nomatch hc) (fun b ⟨c, hc, _⟩ => nomatch hc)
/-- One's own chunk is added to those that are read. -/
theorem Hp.intoR {ok0 : Nat → Prop} {w0 w : World} {c c' : Ch} {M L S : List Ch} (h : Hp ok0 w0 (c :: Ch.rall M :: L) S w) (hc : c.P w → c'.P w) (hb : ∀ b, c'.ok b → c.ok b) : Hp ok0 w0 (Ch.rall (M ++ [c']) :: L) S w := by
  have hM : (Ch.rall M).P w := h.own _ (.tail _ (.head _))
  have hc0 : c.P w := h.own _ (.head _)
  have hp := h.dj
  obtain ⟨p1, p2⟩ := List.pairwise_cons.1 hp
  obtain ⟨p3, p4⟩ := List.pairwise_cons.1 p2
  have key : ∀ b, (Ch.rall (M ++ [c'])).ok b → c.ok b ∨ (Ch.rall M).ok b := fun b ⟨d, hd, hdb⟩ => by
    rcases List.mem_append.1 hd with hd | hd
    · exact .inr ⟨d, hd, hdb⟩
    · rw [List.mem_singleton] at hd; subst hd; exact .inl (hb b hdb)
  refine ⟨h.base, ?_, ?_, ?_, ?_, h.sh, h.slt, ?_⟩
  · intro d hd
    rcases List.mem_cons.1 hd with rfl | hd
    · intro d hd
      rcases List.mem_append.1 hd with hd | hd
      · exact hM d hd
      · rw [List.mem_singleton] at hd; subst hd; exact hc hc0
    · exact h.own d (.tail _ (.tail _ hd))
  · intro d hd b hdb
    rcases List.mem_cons.1 hd with rfl | hd
    · exact (key b hdb).elim (h.lt _ (.head _) b) (h.lt _ (.tail _ (.head _)) b)
    · exact h.lt d (.tail _ (.tail _ hd)) b hdb
  · intro d hd b hdb
    rcases List.mem_cons.1 hd with rfl | hd
    · exact (key b hdb).elim (h.ge _ (.head _) b) (h.ge _ (.tail _ (.head _)) b)
    · exact h.ge d (.tail _ (.tail _ hd)) b hdb
  · exact .cons (fun d hd b hb' => (key b hb').elim (p1 d (.tail _ hd) b) (p3 d hd b)) p4
  · intro s hs d hd b hdb
    rcases List.mem_cons.1 hd with rfl | hd
    · exact (key b hdb).elim (h.sdj s hs _ (.head _) b) (h.sdj s hs _ (.tail _ (.head _)) b)
    · exact h.sdj s hs d (.tail _ (.tail _ hd)) b hdb
/-- An entry and where its slices lie. -/
structure Le where
  e : En
  A : Option Addr
  c : Nat
  B : Option Addr
  d : Nat
def d4 (x : Le) : List Value := enC x.e x.A x.B x.c x.d
theorem bl : Enc d4 7 := ⟨fun _ => rfl, fun _ => rfl⟩
def ff (x : Le) : List Ch := [Ch.rd x.A 3 fY x.e.addrs, Ch.rd x.B 1 eN x.e.ports]
def en0 : En := ⟨[], 0, [], [], [], [], 0⟩
def bO : Le := ⟨en0, none, 0, none, 0⟩
theorem sl_rs {A : Option Addr} {n c : Nat} {e : TypeId} {sz : Nat} {cs : List Value} {w : World} : ((Ch.sl A n c e sz cs).P w → (Ch.rs A n sz cs).P w) ∧ ∀ b, (Ch.rs A n sz cs).ok b → (Ch.sl A n c e sz cs).ok b := ⟨SlP.rs, fun b h => h.2⟩
theorem cg {l : List Le} {x : Le} (h : x ∈ l) : ∀ c ∈ ff x, c ∈ l.flatMap ff := fun c hc => List.mem_flatMap.2 ⟨x, h, hc⟩
theorem il (x : Le) : Ch.rd x.A 3 fY x.e.addrs ∈ ff x := .head _
theorem iv (x : Le) : Ch.rd x.B 1 eN x.e.ports ∈ ff x := .tail _ (.head _)
/-- An entry's own slices are added to those that are read. -/
theorem Hp.intoE {ok0 : Nat → Prop} {w0 w : World} {M L S : List Ch} {e : En} {A B : Option Addr} {c d : Nat} {T1 T2 : TypeId} (h : Hp ok0 w0 (Ch.ls B d T1 1 eN e.ports :: Ch.ls A c T2 3 fY e.addrs :: Ch.rall M :: L) S w) : Hp ok0 w0 (Ch.rall (M ++ ff ⟨e, A, c, B, d⟩) :: L) S w := by
  have h1 := h.perm (List.perm_middle (l₁ := [Ch.ls A c T2 3 fY e.addrs, Ch.rall M]))
  have h2 := Hp.intoR (c' := Ch.rd A 3 fY e.addrs) h1 SlP.rs (fun b hb => hb.2)
  have h3 := Hp.intoR (c' := Ch.rd B 1 eN e.ports) h2.f1 SlP.rs (fun b hb => hb.2)
  rw [List.append_assoc] at h3
  exact h3
end Go.Proofs.Ytnpdgmoeoidppaa

/- search: ij, checks, candidates -/
namespace Go.Proofs.Ytnpdgmoeoidppaa
open Go.RowKit Go.Shelf
set_option linter.unusedVariables false
set_option linter.unusedSimpArgs false

theorem ent_58 : Enters Try.prog 58 := enters_of Try.func58 (by kernel_rfl) rfl

def e6 (a b : bg) : Bool := decide (bj a = 0) && decide (bj b = 0) && decide (bh a = bh b)

theorem je (a b : bg) (ha : a.length ≤ 1000000000) (hb : b.length ≤ 1000000000) : em Try.prog 19 #[.string (ba a), .string (ba b)] (.bool (e6 a b)) := by
 intro w0
 refine ce (ok0 := no) (S := []) (args := [.string (ba a), .string (ba b)]) 20 Try.func19 rfl rfl rfl (by simp) (by simp) ?_
 refine ar ?_
 refine ah ?_
 refine ap (ai rfl) rfl rfl ?_
 refine ae ?_
 refine ao ?_
 refine ar ?_
 refine ah ?_
 refine ap (am rfl) rfl rfl ?_
 refine bR rfl ent_57 (fU _) rfl ?_
 refine ap (dg rfl rfl) rfl rfl ?_
 refine aC (t := 7) rfl (fun h1_2 => ?_) (fun h1_2 => ?_)
 refine ap (am rfl) rfl rfl ?_
 refine aw rfl rfl ?_
 refine ap (am rfl) rfl rfl ?_
 refine aw rfl rfl ?_
 refine bR rfl ent_57 (fU _) rfl ?_
 refine aw rfl rfl ?_
 refine ap (dg rfl rfl) rfl rfl ?_
 refine aC (t := 11) rfl (fun h1_6 => ?_) (fun h1_6 => ?_)
 refine ap (aM rfl rfl) rfl rfl ?_
 refine ap (am rfl) rfl rfl ?_
 refine aw rfl rfl ?_
 refine ap (am rfl) rfl rfl ?_
 refine aw rfl rfl ?_
 refine bR rfl ent_58 (i5 _ (by omega)) rfl ?_
 refine aw rfl rfl ?_
 refine ap (am rfl) rfl rfl ?_
 refine aw rfl rfl ?_
 refine bR rfl ent_58 (i5 _ (by omega)) rfl ?_
 refine aw rfl rfl ?_
 refine ap (eT rfl rfl) rfl rfl ?_
 refine ap (aM rfl rfl) rfl rfl ?_
 refine ap (ai rfl) rfl rfl ?_
 refine ae ?_
 refine ao ?_
 refine aV ?_
 refine aY (ts := [4]) rfl rfl rfl (fun w hw => ?_)
 refine ⟨?_, hw.base⟩
 show Ending.returned (.bool _) = _
 congr 2
 simp [e6, *]
 refine ap (aM rfl rfl) rfl rfl ?_
 refine ap (am rfl) rfl rfl ?_
 refine aq rfl rfl rfl rfl ?_
 refine aq rfl rfl rfl rfl ?_
 refine aq rfl rfl rfl rfl ?_
 refine aq rfl rfl rfl rfl ?_
 refine aq rfl rfl rfl rfl ?_
 refine ap (aQ rfl rfl) rfl rfl ?_
 refine ap (ai rfl) rfl rfl ?_
 refine ae ?_
 refine ao ?_
 refine aV ?_
 refine aY (ts := [4]) rfl rfl rfl (fun w hw => ?_)
 refine ⟨?_, hw.base⟩
 show Ending.returned (.bool _) = _
 congr 2
 simp [e6, *]
 refine ap (am rfl) rfl rfl ?_
 refine aq rfl rfl rfl rfl ?_
 refine aq rfl rfl rfl rfl ?_
 refine aq rfl rfl rfl rfl ?_
 refine ap (aQ rfl rfl) rfl rfl ?_
 refine ap (am rfl) rfl rfl ?_
 refine aq rfl rfl rfl rfl ?_
 refine aq rfl rfl rfl rfl ?_
 refine aq rfl rfl rfl rfl ?_
 refine aq rfl rfl rfl rfl ?_
 refine aq rfl rfl rfl rfl ?_
 refine ap (aQ rfl rfl) rfl rfl ?_
 refine ap (ai rfl) rfl rfl ?_
 refine ae ?_
 refine ao ?_
 refine aV ?_
 refine aY (ts := [4]) rfl rfl rfl (fun w hw => ?_)
 refine ⟨?_, hw.base⟩
 show Ending.returned (.bool _) = _
 congr 2
 simp [e6, *]

end Go.Proofs.Ytnpdgmoeoidppaa

/- Names compared; what lies above a name: plain laws. -/
namespace Go.Proofs.Ytnpdgmoeoidppaa
open Go.RowKit Go.Shelf
set_option linter.unusedVariables false
set_option linter.unusedSimpArgs false

theorem cmpS_anti : ∀ s t : bg, d3 t s = - d3 s t
  | [], [] => rfl
  | [], _ :: _ => rfl
  | _ :: _, [] => rfl
  | a :: r, b :: t => by
    have ih := cmpS_anti r t
    simp only [d3]
    by_cases h1 : a < b
    · have h2 : ¬ b < a := fun h => UInt8.lt_irrefl _ (UInt8.lt_trans h1 h)
      rw [if_pos h1, if_neg h2, if_pos h1]; rfl
    · by_cases h2 : b < a
      · rw [if_pos h2, if_neg h1, if_pos h2]
      · rw [if_neg h1, if_neg h2, if_neg h2, if_neg h1, ih]
theorem cmpS_trans : ∀ {s t u : bg}, d3 s t < 0 → d3 t u < 0 → d3 s u < 0
  | [], [], _, h, _ => by simp [d3] at h
  | _ :: _, [], _, h, _ => by simp [d3] at h
  | _, _ :: _, [], _, h => by simp [d3] at h
  | [], _ :: _, _ :: _, _, _ => by simp [d3]
  | a :: r, b :: t, c :: u, h1, h2 => by
    simp only [d3] at h1 h2 ⊢
    by_cases ab : a < b
    · by_cases bc : b < c
      · rw [if_pos (UInt8.lt_trans ab bc)]; decide
      · rw [if_neg bc] at h2
        by_cases cb : c < b
        · rw [if_pos cb] at h2; omega
        · have e : b = c := UInt8.le_antisymm (UInt8.not_lt.1 cb) (UInt8.not_lt.1 bc)
          subst e
          rw [if_pos ab]; decide
    · rw [if_neg ab] at h1
      by_cases ba' : b < a
      · rw [if_pos ba'] at h1; omega
      · rw [if_neg ba'] at h1
        have e : a = b := UInt8.le_antisymm (UInt8.not_lt.1 ba') (UInt8.not_lt.1 ab)
        subst e
        by_cases bc : a < c
        · rw [if_pos bc]; decide
        · rw [if_neg bc] at h2 ⊢
          by_cases cb : c < a
          · rw [if_pos cb] at h2; omega
          · rw [if_neg cb] at h2 ⊢
            exact cmpS_trans h1 h2
/-- Rows of labels compared. -/
def dM : List bg → List bg → Int
  | [], [] => 0
  | [], _ :: _ => -1
  | _ :: _, [] => 1
  | x :: xs, y :: ys => if d3 (cN x) (cN y) ≠ 0 then d3 (cN x) (cN y) else dM xs ys
theorem cmpLs_anti : ∀ s t : List bg, dM t s = - dM s t
  | [], [] => rfl
  | [], _ :: _ => rfl
  | _ :: _, [] => rfl
  | a :: r, b :: t => by
    have ih := cmpLs_anti r t
    have h := cmpS_anti (cN a) (cN b)
    simp only [dM]
    by_cases h1 : d3 (cN a) (cN b) = 0
    · rw [if_neg (by omega), if_neg (by omega), ih]
    · rw [if_pos (by omega), if_pos h1, h]
theorem cmpLs_zero : ∀ {s t : List bg}, dM s t = 0 ↔ s.map cN = t.map cN
  | [], [] => by simp [dM]
  | [], _ :: _ => by simp [dM]
  | _ :: _, [] => by simp [dM]
  | a :: r, b :: t => by
    have ih := cmpLs_zero (s := r) (t := t)
    simp only [dM, List.map_cons, List.cons.injEq]
    by_cases h1 : d3 (cN a) (cN b) = 0
    · rw [if_neg (by omega), ih]; simp [cmpS_zero.1 h1]
    · rw [if_pos h1]
      exact ⟨fun h => absurd h h1, fun h => absurd (cmpS_zero.2 h.1) h1⟩
theorem cmpLs_trans : ∀ {s t u : List bg}, dM s t < 0 → dM t u < 0 → dM s u < 0
  | [], [], _, h, _ => by simp [dM] at h
  | _ :: _, [], _, h, _ => by simp [dM] at h
  | _, _ :: _, [], _, h => by simp [dM] at h
  | [], _ :: _, _ :: _, _, _ => by simp [dM]
  | a :: r, b :: t, c :: u, h1, h2 => by
    simp only [dM] at h1 h2 ⊢
    by_cases ab : d3 (cN a) (cN b) = 0
    · rw [if_neg (by omega)] at h1
      rw [cmpS_zero.1 ab]
      by_cases bc : d3 (cN b) (cN c) = 0
      · rw [if_neg (by omega)] at h2 ⊢
        exact cmpLs_trans h1 h2
      · rw [if_pos bc] at h2 ⊢; exact h2
    · rw [if_pos ab] at h1
      by_cases bc : d3 (cN b) (cN c) = 0
      · rw [← cmpS_zero.1 bc, if_pos ab]; exact h1
      · rw [if_pos bc] at h2
        have := cmpS_trans h1 h2
        rw [if_pos (by omega)]; exact this
/-- name.Compare. -/
def cn (a b : bg) : Int := dM (bP a).reverse (bP b).reverse
theorem labsN_fold {n : bg} (h : bj n = 0) : bP (bh n) = (bP n).map cN := by
  have hf := e7 h
  have e1 : bP n = eK n := if_pos h
  have e2 : bP (bh n) = eK (bh n) := if_pos hf
  have h1 : ∀ s ∈ (eK n).map cN, 1 ≤ s.length ∧ s.length ≤ 63 := fun s hs => by
    obtain ⟨t, ht, rfl⟩ := List.mem_map.1 hs
    rw [dV]; exact eR n t ht
  have h2 := (fM _ h1).2
  rw [gT _ (eR n), fH n (nameCk_zero.1 h).2, ← gL h] at h2
  rw [e1, e2, h2]
theorem fold_labs {a b : bg} (ha : bj a = 0) (hb : bj b = 0) : bh a = bh b ↔ (bP a).map cN = (bP b).map cN := by
  constructor
  · intro h
    rw [← labsN_fold ha, ← labsN_fold hb, h]
  · intro h
    rw [← g3, ← g3, h]
theorem dJ {a b : bg} (ha : bj a = 0) (hb : bj b = 0) : cn a b = 0 ↔ bh a = bh b := by
  rw [cn, cmpLs_zero, List.map_reverse, List.map_reverse, List.reverse_inj, fold_labs ha hb]
theorem dE (a b : bg) : cn b a = - cn a b := cmpLs_anti _ _
theorem dQ {a b c : bg} (h1 : cn a b < 0) (h2 : cn b c < 0) : cn a c < 0 := cmpLs_trans h1 h2
/-! Steps of the loops. -/
theorem gD {s t : List bg} {k : Nat} (hs : k < s.length) (ht : k < t.length) : dM (s.drop k) (t.drop k) = if d3 (cN (s.getD k [])) (cN (t.getD k [])) ≠ 0 then d3 (cN (s.getD k [])) (cN (t.getD k [])) else dM (s.drop (k + 1)) (t.drop (k + 1)) := by
  rw [cE s [] k hs, cE t [] k ht, dM]
theorem cmpLs_end {s t : List bg} {k : Nat} (h : k ≤ s.length ∧ k ≤ t.length) (he : k = s.length ∨ k = t.length) : dM (s.drop k) (t.drop k) = if s.length < t.length then -1 else if t.length < s.length then 1 else 0 := by
  rcases Nat.lt_trichotomy s.length t.length with h1 | h1 | h1
  · rw [if_pos h1]
    have : k = s.length := by omega
    rw [this, List.drop_length, cE t [] _ h1]; rfl
  · rw [if_neg (by omega), if_neg (by omega)]
    have : k = s.length := by omega
    rw [this, List.drop_length, h1, List.drop_length]; rfl
  · rw [if_neg (by omega), if_pos h1]
    have : k = t.length := by omega
    rw [this, List.drop_length, cE s [] _ h1]; rfl
theorem rev_getD {l : List bg} {k : Nat} (h : k < l.length) : l.reverse.getD k [] = l.getD (l.length - 1 - k) [] := by
  rw [List.getD_eq_getElem?_getD, List.getD_eq_getElem?_getD, List.getElem?_reverse h]
end Go.Proofs.Ytnpdgmoeoidppaa

/- names compared, above, matched -/
namespace Go.Proofs.Ytnpdgmoeoidppaa
open Go.RowKit Go.Shelf
set_option linter.unusedVariables false
set_option linter.unusedSimpArgs false

theorem ent_135 : Enters Try.prog 135 := enters_of Try.func135 (by kernel_rfl) rfl
theorem ent_85 : Enters Try.prog 85 := enters_of Try.func85 (by kernel_rfl) rfl
theorem ent_86 : Enters Try.prog 86 := enters_of Try.func86 (by kernel_rfl) rfl
theorem ent_87 : Enters Try.prog 87 := enters_of Try.func87 (by kernel_rfl) rfl

theorem c_isNaN (n : Int) : em Try.prog 135 #[.int .i64 n] (.bool false) := by
 intro w0
 refine ce (ok0 := no) (S := []) (args := [.int .i64 n]) 6 Try.func135 rfl rfl rfl (by simp) (by simp) ?_
 refine ar ?_
 refine ah ?_
 refine ap (ai rfl) rfl rfl ?_
 refine ae ?_
 refine ao ?_
 refine ar ?_
 refine ah ?_
 refine ap (am rfl) rfl rfl ?_
 refine ap (am rfl) rfl rfl ?_
 refine ap (db rfl rfl) rfl rfl ?_
 refine ap (ai rfl) rfl rfl ?_
 refine ae ?_
 refine ao ?_
 refine aV ?_
 refine aY (ts := [2]) rfl rfl rfl (fun w hw => ?_)
 exact ⟨by show Ending.returned (.bool _) = _; congr 2; simp, hw.base⟩

def cmpI (a b : Int) : Int := if a < b then -1 else if b < a then 1 else 0

theorem c_cmpI (a b : Int) : em Try.prog 87 #[.int .i64 a, .int .i64 b] (.int .i64 (cmpI a b)) := by
 intro w0
 refine ce (ok0 := no) (S := []) (args := [.int .i64 a, .int .i64 b]) 20 Try.func87 rfl rfl rfl (by simp) (by simp) ?_
 refine ar ?_
 refine ah ?_
 refine ap (ai rfl) rfl rfl ?_
 refine ae ?_
 refine ao ?_
 refine ar ?_
 refine ah ?_
 refine ap (am rfl) rfl rfl ?_
 refine bR rfl ent_135 (c_isNaN _) rfl ?_
 refine dx (t := 8) (.bool false) rfl (congrArg Value.bool rfl) ?_
 refine ap (ai rfl) rfl rfl ?_
 refine ae ?_
 refine ao ?_
 refine ar ?_
 refine ah ?_
 refine ap (am rfl) rfl rfl ?_
 refine bR rfl ent_135 (c_isNaN _) rfl ?_
 refine dx (t := 10) (.bool false) rfl (congrArg Value.bool rfl) ?_
 refine ap (ai rfl) rfl rfl ?_
 refine ae ?_
 refine ao ?_
 refine ar ?_
 refine ar ?_
 refine ah ?_
 refine ap (am rfl) rfl rfl ?_
 refine ae ?_
 refine ao ?_
 refine aN rfl ?_
 refine bd ?_
 refine ao ?_
 refine ar ?_
 refine ar ?_
 refine ah ?_
 refine ap (am rfl) rfl rfl ?_
 refine ae ?_
 refine ao ?_
 refine aN rfl ?_
 refine bd ?_
 refine ao ?_
 refine ar ?_
 refine ar ?_
 refine ah ?_
 refine ap (am rfl) rfl rfl ?_
 refine ap (am rfl) rfl rfl ?_
 refine ap (cV rfl rfl) rfl rfl ?_
 refine aC (t := 16) rfl (fun h9_2 => ?_) (fun h9_2 => ?_)
 refine ae ?_
 refine ao ?_
 refine aI rfl ?_
 refine ar ?_
 refine ah ?_
 refine ap (ai rfl) rfl rfl ?_
 refine ae ?_
 refine ao ?_
 refine aV ?_
 refine aB ?_
 refine aY (ts := [4]) rfl rfl rfl (fun w hw => ?_)
 refine ⟨?_, hw.base⟩
 show Ending.returned (.int _ _) = _
 congr 2
 focus first
   | (rw [cmpI, if_pos h9_2]
      done)
   | (rw [cmpI, if_neg h9_2, if_pos (by omega)]
      done)
   | (rw [cmpI, if_neg h9_2, if_neg (by omega)]
      done)
 refine ae ?_
 refine ao ?_
 refine aN rfl ?_
 refine bd ?_
 refine ao ?_
 refine ar ?_
 refine ar ?_
 refine ah ?_
 refine ap (am rfl) rfl rfl ?_
 refine ap (am rfl) rfl rfl ?_
 refine ap (eo rfl rfl) rfl rfl ?_
 refine aC (t := 19) rfl (fun h11_2 => ?_) (fun h11_2 => ?_)
 refine ae ?_
 refine ao ?_
 refine aI rfl ?_
 refine ar ?_
 refine ah ?_
 refine ap (ai rfl) rfl rfl ?_
 refine ae ?_
 refine ao ?_
 refine aV ?_
 refine aB ?_
 refine aY (ts := [4]) rfl rfl rfl (fun w hw => ?_)
 refine ⟨?_, hw.base⟩
 show Ending.returned (.int _ _) = _
 congr 2
 focus first
   | (rw [cmpI, if_pos h9_2]
      done)
   | (rw [cmpI, if_neg h9_2, if_pos (by omega)]
      done)
   | (rw [cmpI, if_neg h9_2, if_neg (by omega)]
      done)
 refine ae ?_
 refine ao ?_
 refine aN rfl ?_
 refine bd ?_
 refine ao ?_
 refine ar ?_
 refine ah ?_
 refine ap (ai rfl) rfl rfl ?_
 refine ae ?_
 refine ao ?_
 refine aV ?_
 refine aY (ts := [4]) rfl rfl rfl (fun w hw => ?_)
 refine ⟨?_, hw.base⟩
 show Ending.returned (.int _ _) = _
 congr 2
 focus first
   | (rw [cmpI, if_pos h9_2]
      done)
   | (rw [cmpI, if_neg h9_2, if_pos (by omega)]
      done)
   | (rw [cmpI, if_neg h9_2, if_neg (by omega)]
      done)

/-- A row turned about so far. -/
def dH (l : List bg) (i : Nat) : List bg := (List.range l.length).map fun p => if p < i ∨ l.length ≤ p + i then l.getD (l.length - 1 - p) [] else l.getD p []
theorem cu (l : List bg) (i : Nat) : (dH l i).length = l.length := by simp [dH]
theorem hG {l : List bg} {i p : Nat} (h : p < l.length) : (dH l i).getD p [] = if p < i ∨ l.length ≤ p + i then l.getD (l.length - 1 - p) [] else l.getD p [] := by
  rw [dH, List.getD_eq_getElem?_getD, List.getElem?_map, List.getElem?_range h]; rfl
theorem ext_getD {l m : List bg} (h : l.length = m.length) (k : ∀ p, p < l.length → l.getD p [] = m.getD p []) : l = m := by
  apply List.ext_getElem h
  intro p h1 h2
  have := k p h1
  rwa [List.getD_eq_getElem?_getD, List.getD_eq_getElem?_getD, List.getElem?_eq_getElem h1, List.getElem?_eq_getElem h2] at this
theorem revK_zero (l : List bg) : dH l 0 = l := ext_getD (cu l 0) (fun p hp => by
  rw [cu] at hp
  rw [hG hp, if_neg (by omega)])
theorem revK_end {l : List bg} {i : Nat} (h : l.length ≤ 2 * i + 1) : dH l i = l.reverse := ext_getD (by rw [cu, List.length_reverse]) (fun p hp => by
  rw [cu] at hp
  rw [hG hp, rev_getD hp]
  split
  · rfl
  · congr 1; omega)
theorem getD_set {l : List bg} {i p : Nat} {v : bg} (hp : p < l.length) : (l.set i v).getD p [] = if i = p then v else l.getD p [] := by
  rw [List.getD_eq_getElem?_getD, List.getElem?_set, List.getD_eq_getElem?_getD]
  split
  · rename_i h; subst h; rw [if_pos hp]; rfl
  · rfl
theorem fx {l : List bg} {i j : Nat} (hj : i + j + 1 = l.length) (hi : i < j) : ((dH l i).set i ((dH l i).getD j [])).set j ((dH l i).getD i []) = dH l (i + 1) := ext_getD (by simp [cu]) (fun p hp => by
  simp only [List.length_set, cu] at hp
  rw [getD_set (by simpa [cu] using hp), getD_set (by rw [cu]; exact hp), hG (by omega), hG (by omega), hG hp, hG hp]
  by_cases h1 : j = p
  · subst h1
    rw [if_pos rfl, if_neg (by omega), if_pos (by omega)]
    congr 1; omega
  · rw [if_neg h1]
    by_cases h2 : i = p
    · subst h2
      rw [if_pos rfl, if_neg (by omega), if_pos (by omega)]
      congr 1; omega
    · rw [if_neg h2]
      by_cases h3 : p < i ∨ l.length ≤ p + i
      · rw [if_pos h3, if_pos (by omega)]
      · rw [if_neg h3, if_neg (by omega)])

set_option maxRecDepth 100000 in
theorem c_Reverse (l : List bg) (A : Option Addr) (c : Nat) (hl : l.length ≤ 1000000000) : UC Try.prog 85 #[.slice A l.length c] [] (Ch.ls A c 9 1 ed l) (α := Unit) (fun _ => .tuple #[]) (fun _ => Ch.ls A c 9 1 ed l.reverse) := by
 refine gE (args := [.slice A l.length c]) 28 Try.func85 rfl rfl rfl (fun w0 => ?_)
 refine ar ?_
 refine ah ?_
 refine ap (am rfl) rfl rfl ?_
 refine ap (bI Try.underlying105 rfl) rfl rfl ?_
 refine ap (fJ rfl rfl (by omega) (by omega)) rfl rfl ?_
 refine ap (ai rfl) rfl rfl ?_
 refine ap (ai rfl) rfl rfl ?_
 refine ae ?_
 refine ao ?_
 refine bn ?_
 refine eF (σ := Nat × Int) [2, 3, 7, 8, 9, 10, 11, 12, 13, 14, 15, 16, 17, 18, 19, 20, 21, 22, 23, 24, 25, 26, 27] (fun q => 2 * q.1 ≤ l.length + 1 ∧ q.2 = (l.length : Int) - 1 - q.1) (fun q => l.length - q.1) (fun q => [(2, .int .i64 q.1), (3, .int .i64 q.2)]) (fun q => Ch.ls A c 9 1 ed (dH l q.1)) ((0, (l.length : Int) - 1)) ?_ ⟨rfl, rfl, trivial⟩ (by rw [revK_zero]) (fun q hI => ?_)
 exact ⟨by omega, by show (l.length : Int) - 1 = (l.length : Int) - 1 - ((0 : Nat) : Int); omega⟩
 obtain ⟨i, jz⟩ := q
 dsimp only at hI ⊢
 refine ar ?_
 refine ar ?_
 refine ah ?_
 refine ap (am rfl) rfl rfl ?_
 refine ap (am rfl) rfl rfl ?_
 refine ap (cV rfl rfl) rfl rfl ?_
 refine aC (t := 9) rfl (fun h1_2 => ?_) (fun h1_2 => ?_)
 have hrl := cu l i
 obtain ⟨j, hj⟩ : ∃ j : Nat, jz = (j : Int) := ⟨jz.toNat, by omega⟩
 subst hj
 refine ae ?_
 refine ao ?_
 refine aI rfl ?_
 refine bd ?_
 refine ao ?_
 refine ar ?_
 refine bn ?_
 refine gB 13 rfl mixed ?_
 refine au (i := 0) rfl aa (am rfl) aD aD rfl (aA (aj (aW (aA av)))) (by kernel_rfl) rfl ?_
 refine bN (t := 14) (.slice A (dH l i).length c) rfl (by simp [cu]) ?_
 refine au (i := 1) rfl aa (am rfl) aD aD rfl (aA (aj (aW (aA av)))) (by kernel_rfl) rfl ?_
 refine au (i := 4) rfl aa (am rfl) aD aD rfl (aA (aj (aW (aA av)))) (by kernel_rfl) rfl ?_
 refine bN (t := 18) (.slice A (dH l i).length c) rfl (by simp [cu]) ?_
 refine au (i := 5) rfl aa (am rfl) aD aD rfl (aA (aj (aW (aA av)))) (by kernel_rfl) rfl ?_
 refine au (i := 6) rfl aa (cj  Try.underlying105 cF rfl rfl (dU 0 rfl) rfl (by omega)) aD aD rfl (aA (aj (aW (aA av)))) (by kernel_rfl) rfl ?_
 refine au (i := 7) rfl aa (cR bB ([] : bg) cF rfl (dU 0 rfl) (by omega) rfl rfl) aD aD rfl (aA (aj (aW (aA av)))) (by kernel_rfl) rfl ?_
 refine au (i := 8) rfl aa (am rfl) aD aD rfl (aA (aj (aW (aA av)))) (by kernel_rfl) rfl ?_
 refine bN (t := 22) (.slice A (dH l i).length c) rfl (by simp [cu]) ?_
 refine au (i := 9) rfl aa (am rfl) aD aD rfl (aA (aj (aW (aA av)))) (by kernel_rfl) rfl ?_
 refine au (i := 10) rfl aa (cj  Try.underlying105 cF rfl rfl (dU 0 rfl) rfl (by omega)) aD aD rfl (aA (aj (aW (aA av)))) (by kernel_rfl) rfl ?_
 refine au (i := 11) rfl aa (cR bB ([] : bg) cF rfl (dU 0 rfl) (by omega) rfl rfl) aD aD rfl (aA (aj (aW (aA av)))) (by kernel_rfl) rfl ?_
 refine au (i := 12) rfl aa (cj  Try.underlying105 cF rfl rfl (dU 0 rfl) rfl (by omega)) aD aD rfl (aA (aj (aW (aA av)))) (by kernel_rfl) rfl ?_
 refine bJ (js := [2, 3, 13]) (by kernel_rfl) rfl ?_
 refine aJ (i := 2) rfl rfl rfl (fun _ _ _ => ax (by kernel_rfl)) rfl ?_ ?_
 refine ap (am rfl) rfl rfl ?_
 refine ae ?_
 refine ay aD ?_
 refine bJ (js := [3, 13]) (by kernel_rfl) rfl ?_
 refine aJ (i := 3) rfl rfl rfl (fun _ _ _ => ax (by kernel_rfl)) rfl ?_ ?_
 refine ap (am rfl) rfl rfl ?_
 refine ae ?_
 refine ay aD ?_
 refine aP (i := 13) rfl rfl rfl (fun _ _ _ => ax (by kernel_rfl)) (by kernel_rfl) rfl ?_
 refine eH bB ([] : bg) ((dH l i).getD j []) cF rfl rfl rfl .z rfl (by omega) rfl rfl rfl ?_
 refine ae ?_
 refine cY rfl ?_
 refine bN (t := 16) (.slice A ((dH l i).set i ((dH l i).getD j [])).length c) rfl (by simp [cu]) ?_
 refine aP (i := 14) rfl rfl rfl (fun _ _ _ => ax (by kernel_rfl)) (by kernel_rfl) rfl ?_
 refine ap (cj  Try.underlying105 cF rfl rfl (dU 0 rfl) rfl (by simp [cu]; omega)) rfl rfl ?_
 refine ae ?_
 refine cY rfl ?_
 refine aP (i := 15) rfl rfl rfl (fun _ _ _ => ax (by kernel_rfl)) (by kernel_rfl) rfl ?_
 refine eH bB ([] : bg) ((dH l i).getD i []) cF rfl rfl rfl .z rfl (by simp [cu]; omega) rfl rfl rfl ?_
 refine ae ?_
 refine cY rfl ?_
 refine bA (by kernel_rfl) ?_
 refine bV ?_
 refine ao ?_
 refine ah ?_
 refine ap (am rfl) rfl rfl ?_
 refine ap (bY rfl rfl (by omega) (by omega)) rfl rfl ?_
 refine ap (am rfl) rfl rfl ?_
 refine ap (fJ rfl rfl (by omega) (by omega)) rfl rfl ?_
 refine ap (ai rfl) rfl rfl ?_
 refine ap (ai rfl) rfl rfl ?_
 refine ae ?_
 refine cr ((i + 1, (j : Int) - 1)) ?_ ?_ ⟨rfl, rfl, trivial⟩ (by repeat (first | exact trivial | refine ⟨rfl, ?_⟩)) (fun w h => by show Hp _ _ (Ch.ls _ _ _ _ _ (dH l (i + 1)) :: _) _ _; rw [← fx (l := l) (i := i) (j := j) (by omega) (by omega)]; exact h)
 exact ⟨by show 2 * (i + 1) ≤ _; omega, by show (j : Int) - 1 = _; omega⟩
 show l.length - (i + 1) < l.length - i
 omega
 refine aJ (i := 13) rfl rfl rfl (fun _ _ _ => ax (by kernel_rfl)) rfl ?_ ?_
 refine eH bB ([] : bg) ((dH l i).getD j []) cF rfl rfl rfl .z rfl (by omega) rfl rfl rfl ?_
 refine ae ?_
 refine cY rfl ?_
 refine aP (i := 3) rfl rfl rfl (fun _ _ _ => ax (by kernel_rfl)) (by kernel_rfl) rfl ?_
 refine ap (am rfl) rfl rfl ?_
 refine ae ?_
 refine cY rfl ?_
 refine bN (t := 16) (.slice A ((dH l i).set i ((dH l i).getD j [])).length c) rfl (by simp [cu]) ?_
 refine aP (i := 14) rfl rfl rfl (fun _ _ _ => ax (by kernel_rfl)) (by kernel_rfl) rfl ?_
 refine ap (cj  Try.underlying105 cF rfl rfl (dU 0 rfl) rfl (by simp [cu]; omega)) rfl rfl ?_
 refine ae ?_
 refine cY rfl ?_
 refine aP (i := 15) rfl rfl rfl (fun _ _ _ => ax (by kernel_rfl)) (by kernel_rfl) rfl ?_
 refine eH bB ([] : bg) ((dH l i).getD i []) cF rfl rfl rfl .z rfl (by simp [cu]; omega) rfl rfl rfl ?_
 refine ae ?_
 refine cY rfl ?_
 refine bA (by kernel_rfl) ?_
 refine bV ?_
 refine ao ?_
 refine ah ?_
 refine ap (am rfl) rfl rfl ?_
 refine ap (bY rfl rfl (by omega) (by omega)) rfl rfl ?_
 refine ap (am rfl) rfl rfl ?_
 refine ap (fJ rfl rfl (by omega) (by omega)) rfl rfl ?_
 refine ap (ai rfl) rfl rfl ?_
 refine ap (ai rfl) rfl rfl ?_
 refine ae ?_
 refine cr ((i + 1, (j : Int) - 1)) ?_ ?_ ⟨rfl, rfl, trivial⟩ (by repeat (first | exact trivial | refine ⟨rfl, ?_⟩)) (fun w h => by show Hp _ _ (Ch.ls _ _ _ _ _ (dH l (i + 1)) :: _) _ _; rw [← fx (l := l) (i := i) (j := j) (by omega) (by omega)]; exact h)
 exact ⟨by show 2 * (i + 1) ≤ _; omega, by show (j : Int) - 1 = _; omega⟩
 show l.length - (i + 1) < l.length - i
 omega
 exact bx
 refine aJ (i := 3) rfl rfl rfl (fun _ _ _ => ax (by kernel_rfl)) rfl ?_ ?_
 refine ap (am rfl) rfl rfl ?_
 refine ae ?_
 refine ay aD ?_
 refine bJ (js := [2, 13]) (by kernel_rfl) rfl ?_
 refine aJ (i := 2) rfl rfl rfl (fun _ _ _ => ax (by kernel_rfl)) rfl ?_ ?_
 refine ap (am rfl) rfl rfl ?_
 refine ae ?_
 refine ay aD ?_
 refine aP (i := 13) rfl rfl rfl (fun _ _ _ => ax (by kernel_rfl)) (by kernel_rfl) rfl ?_
 refine eH bB ([] : bg) ((dH l i).getD j []) cF rfl rfl rfl .z rfl (by omega) rfl rfl rfl ?_
 refine ae ?_
 refine cY rfl ?_
 refine bN (t := 16) (.slice A ((dH l i).set i ((dH l i).getD j [])).length c) rfl (by simp [cu]) ?_
 refine aP (i := 14) rfl rfl rfl (fun _ _ _ => ax (by kernel_rfl)) (by kernel_rfl) rfl ?_
 refine ap (cj  Try.underlying105 cF rfl rfl (dU 0 rfl) rfl (by simp [cu]; omega)) rfl rfl ?_
 refine ae ?_
 refine cY rfl ?_
 refine aP (i := 15) rfl rfl rfl (fun _ _ _ => ax (by kernel_rfl)) (by kernel_rfl) rfl ?_
 refine eH bB ([] : bg) ((dH l i).getD i []) cF rfl rfl rfl .z rfl (by simp [cu]; omega) rfl rfl rfl ?_
 refine ae ?_
 refine cY rfl ?_
 refine bA (by kernel_rfl) ?_
 refine bV ?_
 refine ao ?_
 refine ah ?_
 refine ap (am rfl) rfl rfl ?_
 refine ap (bY rfl rfl (by omega) (by omega)) rfl rfl ?_
 refine ap (am rfl) rfl rfl ?_
 refine ap (fJ rfl rfl (by omega) (by omega)) rfl rfl ?_
 refine ap (ai rfl) rfl rfl ?_
 refine ap (ai rfl) rfl rfl ?_
 refine ae ?_
 refine cr ((i + 1, (j : Int) - 1)) ?_ ?_ ⟨rfl, rfl, trivial⟩ (by repeat (first | exact trivial | refine ⟨rfl, ?_⟩)) (fun w h => by show Hp _ _ (Ch.ls _ _ _ _ _ (dH l (i + 1)) :: _) _ _; rw [← fx (l := l) (i := i) (j := j) (by omega) (by omega)]; exact h)
 exact ⟨by show 2 * (i + 1) ≤ _; omega, by show (j : Int) - 1 = _; omega⟩
 show l.length - (i + 1) < l.length - i
 omega
 refine aJ (i := 13) rfl rfl rfl (fun _ _ _ => ax (by kernel_rfl)) rfl ?_ ?_
 refine eH bB ([] : bg) ((dH l i).getD j []) cF rfl rfl rfl .z rfl (by omega) rfl rfl rfl ?_
 refine ae ?_
 refine cY rfl ?_
 refine aP (i := 2) rfl rfl rfl (fun _ _ _ => ax (by kernel_rfl)) (by kernel_rfl) rfl ?_
 refine ap (am rfl) rfl rfl ?_
 refine ae ?_
 refine cY rfl ?_
 refine bN (t := 16) (.slice A ((dH l i).set i ((dH l i).getD j [])).length c) rfl (by simp [cu]) ?_
 refine aP (i := 14) rfl rfl rfl (fun _ _ _ => ax (by kernel_rfl)) (by kernel_rfl) rfl ?_
 refine ap (cj  Try.underlying105 cF rfl rfl (dU 0 rfl) rfl (by simp [cu]; omega)) rfl rfl ?_
 refine ae ?_
 refine cY rfl ?_
 refine aP (i := 15) rfl rfl rfl (fun _ _ _ => ax (by kernel_rfl)) (by kernel_rfl) rfl ?_
 refine eH bB ([] : bg) ((dH l i).getD i []) cF rfl rfl rfl .z rfl (by simp [cu]; omega) rfl rfl rfl ?_
 refine ae ?_
 refine cY rfl ?_
 refine bA (by kernel_rfl) ?_
 refine bV ?_
 refine ao ?_
 refine ah ?_
 refine ap (am rfl) rfl rfl ?_
 refine ap (bY rfl rfl (by omega) (by omega)) rfl rfl ?_
 refine ap (am rfl) rfl rfl ?_
 refine ap (fJ rfl rfl (by omega) (by omega)) rfl rfl ?_
 refine ap (ai rfl) rfl rfl ?_
 refine ap (ai rfl) rfl rfl ?_
 refine ae ?_
 refine cr ((i + 1, (j : Int) - 1)) ?_ ?_ ⟨rfl, rfl, trivial⟩ (by repeat (first | exact trivial | refine ⟨rfl, ?_⟩)) (fun w h => by show Hp _ _ (Ch.ls _ _ _ _ _ (dH l (i + 1)) :: _) _ _; rw [← fx (l := l) (i := i) (j := j) (by omega) (by omega)]; exact h)
 exact ⟨by show 2 * (i + 1) ≤ _; omega, by show (j : Int) - 1 = _; omega⟩
 show l.length - (i + 1) < l.length - i
 omega
 exact bx
 refine aJ (i := 13) rfl rfl rfl (fun _ _ _ => ax (by kernel_rfl)) rfl ?_ ?_
 refine eH bB ([] : bg) ((dH l i).getD j []) cF rfl rfl rfl .z rfl (by omega) rfl rfl rfl ?_
 refine ae ?_
 refine cY rfl ?_
 refine bJ (js := [2, 3]) (by kernel_rfl) rfl ?_
 refine aJ (i := 2) rfl rfl rfl (fun _ _ _ => ax (by kernel_rfl)) rfl ?_ ?_
 refine ap (am rfl) rfl rfl ?_
 refine ae ?_
 refine cY rfl ?_
 refine aP (i := 3) rfl rfl rfl (fun _ _ _ => ax (by kernel_rfl)) (by kernel_rfl) rfl ?_
 refine ap (am rfl) rfl rfl ?_
 refine ae ?_
 refine cY rfl ?_
 refine bN (t := 16) (.slice A ((dH l i).set i ((dH l i).getD j [])).length c) rfl (by simp [cu]) ?_
 refine aP (i := 14) rfl rfl rfl (fun _ _ _ => ax (by kernel_rfl)) (by kernel_rfl) rfl ?_
 refine ap (cj  Try.underlying105 cF rfl rfl (dU 0 rfl) rfl (by simp [cu]; omega)) rfl rfl ?_
 refine ae ?_
 refine cY rfl ?_
 refine aP (i := 15) rfl rfl rfl (fun _ _ _ => ax (by kernel_rfl)) (by kernel_rfl) rfl ?_
 refine eH bB ([] : bg) ((dH l i).getD i []) cF rfl rfl rfl .z rfl (by simp [cu]; omega) rfl rfl rfl ?_
 refine ae ?_
 refine cY rfl ?_
 refine bA (by kernel_rfl) ?_
 refine bV ?_
 refine ao ?_
 refine ah ?_
 refine ap (am rfl) rfl rfl ?_
 refine ap (bY rfl rfl (by omega) (by omega)) rfl rfl ?_
 refine ap (am rfl) rfl rfl ?_
 refine ap (fJ rfl rfl (by omega) (by omega)) rfl rfl ?_
 refine ap (ai rfl) rfl rfl ?_
 refine ap (ai rfl) rfl rfl ?_
 refine ae ?_
 refine cr ((i + 1, (j : Int) - 1)) ?_ ?_ ⟨rfl, rfl, trivial⟩ (by repeat (first | exact trivial | refine ⟨rfl, ?_⟩)) (fun w h => by show Hp _ _ (Ch.ls _ _ _ _ _ (dH l (i + 1)) :: _) _ _; rw [← fx (l := l) (i := i) (j := j) (by omega) (by omega)]; exact h)
 exact ⟨by show 2 * (i + 1) ≤ _; omega, by show (j : Int) - 1 = _; omega⟩
 show l.length - (i + 1) < l.length - i
 omega
 refine aJ (i := 3) rfl rfl rfl (fun _ _ _ => ax (by kernel_rfl)) rfl ?_ ?_
 refine ap (am rfl) rfl rfl ?_
 refine ae ?_
 refine cY rfl ?_
 refine aP (i := 2) rfl rfl rfl (fun _ _ _ => ax (by kernel_rfl)) (by kernel_rfl) rfl ?_
 refine ap (am rfl) rfl rfl ?_
 refine ae ?_
 refine cY rfl ?_
 refine bN (t := 16) (.slice A ((dH l i).set i ((dH l i).getD j [])).length c) rfl (by simp [cu]) ?_
 refine aP (i := 14) rfl rfl rfl (fun _ _ _ => ax (by kernel_rfl)) (by kernel_rfl) rfl ?_
 refine ap (cj  Try.underlying105 cF rfl rfl (dU 0 rfl) rfl (by simp [cu]; omega)) rfl rfl ?_
 refine ae ?_
 refine cY rfl ?_
 refine aP (i := 15) rfl rfl rfl (fun _ _ _ => ax (by kernel_rfl)) (by kernel_rfl) rfl ?_
 refine eH bB ([] : bg) ((dH l i).getD i []) cF rfl rfl rfl .z rfl (by simp [cu]; omega) rfl rfl rfl ?_
 refine ae ?_
 refine cY rfl ?_
 refine bA (by kernel_rfl) ?_
 refine bV ?_
 refine ao ?_
 refine ah ?_
 refine ap (am rfl) rfl rfl ?_
 refine ap (bY rfl rfl (by omega) (by omega)) rfl rfl ?_
 refine ap (am rfl) rfl rfl ?_
 refine ap (fJ rfl rfl (by omega) (by omega)) rfl rfl ?_
 refine ap (ai rfl) rfl rfl ?_
 refine ap (ai rfl) rfl rfl ?_
 refine ae ?_
 refine cr ((i + 1, (j : Int) - 1)) ?_ ?_ ⟨rfl, rfl, trivial⟩ (by repeat (first | exact trivial | refine ⟨rfl, ?_⟩)) (fun w h => by show Hp _ _ (Ch.ls _ _ _ _ _ (dH l (i + 1)) :: _) _ _; rw [← fx (l := l) (i := i) (j := j) (by omega) (by omega)]; exact h)
 exact ⟨by show 2 * (i + 1) ≤ _; omega, by show (j : Int) - 1 = _; omega⟩
 show l.length - (i + 1) < l.length - i
 omega
 exact bx
 exact bx
 refine ae ?_
 refine ao ?_
 refine aN rfl ?_
 refine cz ?_
 refine br ?_
 refine bC ?_
 refine bK ?_
 refine e_end (ts := []) rfl rfl rfl (fun w hw => ?_)
 obtain ⟨h1, h2, h3⟩ := (show Hp _ _ [Ch.ls A c 9 1 ed (dH l i)] _ _ from hw).uc
 have he : dH l i = l.reverse := revK_end (by omega)
 rw [he] at h2 h3
 exact ⟨(), rfl, h1, h2, h3⟩

theorem cmpI_len (a b : Nat) : cmpI (a : Int) (b : Int) = if a < b then -1 else if b < a then 1 else 0 := by
  unfold cmpI
  by_cases h1 : a < b
  · rw [if_pos h1, if_pos (by omega)]
  · rw [if_neg h1, if_neg (by omega)]
    by_cases h2 : b < a
    · rw [if_pos h2, if_pos (by omega)]
    · rw [if_neg h2, if_neg (by omega)]
theorem cmpN_end {a b : bg} {k : Nat} (h : cn a b = dM ((bP a).reverse.drop k) ((bP b).reverse.drop k)) (h1 : k ≤ (bP a).length) (h2 : k ≤ (bP b).length) (he : k = (bP a).length ∨ k = (bP b).length) : cn a b = cmpI ((bP a).length : Int) ((bP b).length : Int) := by
  rw [h, cmpLs_end (by simp; omega) (by simpa using he), List.length_reverse, List.length_reverse, cmpI_len]

theorem c_name_Compare (a b : bg) (ha : a.length ≤ 1000000000) (hb : b.length ≤ 1000000000) : RC Try.prog 47 #[.string (ba a), .string (ba b)] [] (α := Unit) (fun _ => .int .i64 (cn a b)) (fun _ => []) := by
 refine bZ (args := [.string (ba a), .string (ba b)]) 44 Try.func47 rfl rfl rfl (fun w0 => ?_)
 have hra : (bP a).reverse.length = (bP a).length := List.length_reverse
 have hrb : (bP b).reverse.length = (bP b).length := List.length_reverse
 have hla := iT a (by omega)
 have hlb := iT b (by omega)
 have hxa : ∀ s ∈ (bP a).reverse, s.length ≤ 1000000000000 := fun s hs => by have := hla.2.1 s (List.mem_reverse.1 hs); omega
 have hxb : ∀ s ∈ (bP b).reverse, s.length ≤ 1000000000000 := fun s hs => by have := hlb.2.1 s (List.mem_reverse.1 hs); omega
 have hxa2 : ∀ s ∈ bP a, s.length ≤ 1000000000000 := fun s hs => by have := hla.2.1 s hs; omega
 have hxb2 : ∀ s ∈ bP b, s.length ≤ 1000000000000 := fun s hs => by have := hlb.2.1 s hs; omega
 refine ar ?_
 refine ah ?_
 refine ap (ai rfl) rfl rfl ?_
 refine ae ?_
 refine ao ?_
 refine ar ?_
 refine ah ?_
 refine ap (am rfl) rfl rfl ?_
 refine d9 rfl ent_84 rfl (fV _) (fun w hw => aO) (fun ⟨A0, c0⟩ => ?_)
 refine ap (am rfl) rfl rfl ?_
 refine d9 rfl ent_84 rfl (fV _) (fun w hw => aO) (fun ⟨A1, c1⟩ => ?_)
 refine ap (ai rfl) rfl rfl ?_
 refine ap (ai rfl) rfl rfl ?_
 refine ae ?_
 refine ao ?_
 refine ar ?_
 refine ah ?_
 refine ap (am rfl) rfl rfl ?_
 refine fp rfl ent_85 rfl (c_Reverse _ _ _ (by omega)) (fun o => (.s (.z))) (List.mem_of_getElem? (i := 1) rfl) (fun s hs => nomatch hs) (fun o2 => ?_)
 refine ae ?_
 refine ao ?_
 refine ar ?_
 refine ah ?_
 refine ap (am rfl) rfl rfl ?_
 refine fp rfl ent_85 rfl (c_Reverse _ _ _ (by omega)) (fun o => .z) (List.mem_of_getElem? (i := 0) rfl) (fun s hs => nomatch hs) (fun o3 => ?_)
 refine ae ?_
 refine ao ?_
 refine ar ?_
 refine ar ?_
 refine ah ?_
 refine ap (am rfl) rfl rfl ?_
 refine dx (t := 18) (.slice A0 (bP a).reverse.length c0) rfl (by rw [List.length_reverse]) ?_
 refine ap (bI Try.underlying105 rfl) rfl rfl ?_
 refine ap (am rfl) rfl rfl ?_
 refine ae ?_
 refine ao ?_
 refine bn ?_
 refine dd (σ := Nat) [4, 7, 8, 9, 20, 21, 22, 23, 24, 25, 26, 27, 28, 29, 30, 31, 32, 33, 34, 35, 36, 37, 38] (fun k => k ≤ (bP a).length ∧ k ≤ (bP b).length ∧ cn a b = dM ((bP a).reverse.drop k) ((bP b).reverse.drop k)) (fun k => (bP a).length - k) (fun k => [(20, .int .i64 k)]) (0) ?_ ⟨rfl, trivial⟩ (fun k hI => ?_)
 exact ⟨Nat.zero_le _, Nat.zero_le _, rfl⟩
 refine ar ?_
 refine ah ?_
 refine ap (cV rfl rfl) rfl rfl ?_
 refine aC (t := 21) rfl (fun h5_0 => ?_) (fun h5_0 => ?_)
 refine ae ?_
 refine ao ?_
 refine ar ?_
 refine aI rfl ?_
 refine bd ?_
 refine ao ?_
 refine ar ?_
 refine bn ?_
 refine ar ?_
 refine ah ?_
 refine ap (am rfl) rfl rfl ?_
 refine ap (cj  Try.underlying105 cF rfl rfl (dU 1 rfl) rfl (by simp; omega)) rfl rfl ?_
 refine ap (cR bB ([] : bg) cF rfl (dU 1 rfl) (by simp; omega) rfl rfl) rfl rfl ?_
 refine ap (ai rfl) rfl rfl ?_
 refine ap (ai rfl) rfl rfl ?_
 refine ae ?_
 refine ao ?_
 refine ar ?_
 refine ar ?_
 refine ah ?_
 refine ap (am rfl) rfl rfl ?_
 refine ap (am rfl) rfl rfl ?_
 refine ap (bI Try.underlying105 rfl) rfl rfl ?_
 refine ap (dg rfl rfl) rfl rfl ?_
 refine aC (t := 28) rfl (fun h7_3 => ?_) (fun h7_3 => ?_)
 refine ae ?_
 refine ao ?_
 refine aI rfl ?_
 refine cz ?_
 refine br ?_
 refine eG rfl ?_
 refine br ?_
 refine bC ?_
 refine bK ?_
 refine ao ?_
 refine ar ?_
 refine ah ?_
 refine ap (am rfl) rfl rfl ?_
 refine ap (bI Try.underlying105 rfl) rfl rfl ?_
 refine ap (am rfl) rfl rfl ?_
 refine ap (bI Try.underlying105 rfl) rfl rfl ?_
 refine bR rfl ent_87 (c_cmpI _ _) rfl ?_
 refine ap (ai rfl) rfl rfl ?_
 refine ae ?_
 refine ao ?_
 refine aV ?_
 refine aY (ts := [4]) rfl rfl rfl (fun w hw => ?_)
 focus first
   | (have he : cn a b = d3 (cN ((bP a).reverse.getD k [])) (cN ((bP b).reverse.getD k [])) := by rw [hI.2.2, gD (s := (bP a).reverse) (t := (bP b).reverse) (k := k) (by simp; omega) (by simp; omega), if_pos h9_1]
      exact ⟨(), by rw [he]; rfl, hw.base, (hw.weak (List.nil_sublist _) (fun s hs => hs)).toNews⟩)
   | (have he := cmpN_end hI.2.2 hI.1 hI.2.1 (by omega)
      exact ⟨(), by rw [he]; rfl, hw.base, (hw.weak (List.nil_sublist _) (fun s hs => hs)).toNews⟩)
   | (trace_state; fail)
 refine ae ?_
 refine ao ?_
 refine aN rfl ?_
 refine bd ?_
 refine ao ?_
 refine ar ?_
 refine ah ?_
 refine ap (am rfl) rfl rfl ?_
 refine ap (am rfl) rfl rfl ?_
 refine dx (t := 30) (.slice A1 (bP b).reverse.length c1) rfl (by rw [List.length_reverse]) ?_
 refine ap (am rfl) rfl rfl ?_
 refine ap (cj  Try.underlying105 cF rfl rfl (dU 0 rfl) rfl (by simp; omega)) rfl rfl ?_
 refine ap (cR bB ([] : bg) cF rfl (dU 0 rfl) (by simp; omega) rfl rfl) rfl rfl ?_
 refine bR rfl ent_86 (c_label_Compare _ _ (hxa _ (bE (by simp; omega))) (hxb _ (bE (by simp; omega)))) rfl ?_
 refine ap (ai rfl) rfl rfl ?_
 refine ae ?_
 refine ao ?_
 refine ar ?_
 refine ah ?_
 refine ap (am rfl) rfl rfl ?_
 refine ap (db rfl rfl) rfl rfl ?_
 refine aC (t := 36) rfl (fun h9_1 => ?_) (fun h9_1 => ?_)
 refine ae ?_
 refine ao ?_
 refine aI rfl ?_
 refine ar ?_
 refine ah ?_
 refine ap (am rfl) rfl rfl ?_
 refine ap (ai rfl) rfl rfl ?_
 refine ae ?_
 refine ao ?_
 refine aV ?_
 refine aT ?_
 refine aB ?_
 refine bL ?_
 refine aT ?_
 refine aB ?_
 refine aY (ts := [4]) rfl rfl rfl (fun w hw => ?_)
 focus first
   | (have he : cn a b = d3 (cN ((bP a).reverse.getD k [])) (cN ((bP b).reverse.getD k [])) := by rw [hI.2.2, gD (s := (bP a).reverse) (t := (bP b).reverse) (k := k) (by simp; omega) (by simp; omega), if_pos h9_1]
      exact ⟨(), by rw [he]; rfl, hw.base, (hw.weak (List.nil_sublist _) (fun s hs => hs)).toNews⟩)
   | (have he := cmpN_end hI.2.2 hI.1 hI.2.1 (by omega)
      exact ⟨(), by rw [he]; rfl, hw.base, (hw.weak (List.nil_sublist _) (fun s hs => hs)).toNews⟩)
   | (trace_state; fail)
 refine ae ?_
 refine ao ?_
 refine aN rfl ?_
 refine bd ?_
 refine bV ?_
 refine ao ?_
 refine ah ?_
 refine ap (bY rfl rfl (by omega) (by omega)) rfl rfl ?_
 refine ap (am rfl) rfl rfl ?_
 refine ae ?_
 refine cr (k + 1) ?_ ?_ ⟨rfl, trivial⟩ (by repeat (first | exact trivial | refine ⟨rfl, ?_⟩)) aD
 exact ⟨by omega, by omega, by rw [hI.2.2, gD (s := (bP a).reverse) (t := (bP b).reverse) (k := k) (by simp; omega) (by simp; omega), if_neg h9_1]⟩
 omega
 refine ae ?_
 refine ao ?_
 refine ar ?_
 refine aN rfl ?_
 refine cz ?_
 refine br ?_
 refine bC ?_
 refine bK ?_
 refine ao ?_
 refine ar ?_
 refine ah ?_
 refine ap (am rfl) rfl rfl ?_
 refine ap (bI Try.underlying105 rfl) rfl rfl ?_
 refine ap (am rfl) rfl rfl ?_
 refine ap (bI Try.underlying105 rfl) rfl rfl ?_
 refine bR rfl ent_87 (c_cmpI _ _) rfl ?_
 refine ap (ai rfl) rfl rfl ?_
 refine ae ?_
 refine ao ?_
 refine aV ?_
 refine aY (ts := [4]) rfl rfl rfl (fun w hw => ?_)
 focus first
   | (have he : cn a b = d3 (cN ((bP a).reverse.getD k [])) (cN ((bP b).reverse.getD k [])) := by rw [hI.2.2, gD (s := (bP a).reverse) (t := (bP b).reverse) (k := k) (by simp; omega) (by simp; omega), if_pos h9_1]
      exact ⟨(), by rw [he]; rfl, hw.base, (hw.weak (List.nil_sublist _) (fun s hs => hs)).toNews⟩)
   | (have he := cmpN_end hI.2.2 hI.1 hI.2.1 (by omega)
      exact ⟨(), by rw [he]; rfl, hw.base, (hw.weak (List.nil_sublist _) (fun s hs => hs)).toNews⟩)
   | (trace_state; fail)

theorem eL (a b : bg) (ha : a.length ≤ 1000000000) (hb : b.length ≤ 1000000000) : em Try.prog 47 #[.string (ba a), .string (ba b)] (.int .i64 (cn a b)) := rc_pure (c_name_Compare a b ha hb)

end Go.Proofs.Ytnpdgmoeoidppaa

/- search: each candidate once; the laws of candidates -/
namespace Go.Proofs.Ytnpdgmoeoidppaa
open Go.RowKit Go.Shelf
set_option linter.unusedVariables false
set_option linter.unusedSimpArgs false

theorem fO : TyI Try.prog 25 false 1 24 (.slice none 0 0) := TyI.mk' (by kernel_rfl) (fun _ => by kernel_rfl)

def namesE (s : Sr) (n : bg) : Int := if srCk s ≠ 0 then srCk s else bj n
def gK (l : List bg) (m : Int) : Bool := decide (∀ s ∈ l, s.length ≤ 300) && decide ((l.length : Int) ≤ m)
theorem lightN_bad {l : List bg} {m : Int} {k : Nat} (hk : k < l.length) (h : 300 < ((l.getD k []).length : Int)) : gK l m = false := by
  rw [gK, decide_eq_false (fun q => by have := q _ (bE (d := []) hk); omega), Bool.false_and]
theorem lightN_ok {l : List bg} {m : Int} (h : ∀ i, i < l.length → (l.getD i []).length ≤ 300) : gK l m = decide ((l.length : Int) ≤ m) := by
  rw [gK, decide_eq_true, Bool.true_and]
  intro s hs
  obtain ⟨i, hi, rfl⟩ := List.mem_iff_getElem.1 hs
  have := h i hi
  rwa [List.getD_eq_getElem?_getD, List.getElem?_eq_getElem hi] at this
theorem lightN_le {l : List bg} {m : Int} (h : gK l m = true) : (∀ s ∈ l, s.length ≤ 300) ∧ (l.length : Int) ≤ m := by
  simpa [gK] using h

theorem c_LightNames (l : List bg) (A : Option Addr) (c : Nat) (m : Int) (hl : l.length ≤ 9223372036854775807) : RC Try.prog 39 #[.slice A l.length c, .int .i64 m] [Ch.rd A 1 ed l] (α := Unit) (fun _ => .bool (gK l m)) (fun _ => []) := by
 refine bZ (args := [.slice A l.length c, .int .i64 m]) 22 Try.func39 rfl rfl rfl (fun w0 => ?_)
 refine ar ?_
 refine ah ?_
 refine ap (ai rfl) rfl rfl ?_
 refine ae ?_
 refine ao ?_
 refine ar ?_
 refine ar ?_
 refine ah ?_
 refine ap (ai rfl) rfl rfl ?_
 refine ae ?_
 refine ao ?_
 refine bn ?_
 refine dd (σ := Nat) [4, 5, 6, 7, 8, 9, 10, 11, 12, 13, 14, 15, 16, 17] (fun k => k ≤ l.length ∧ ∀ i, i < k → (l.getD i []).length ≤ 300) (fun k => l.length - k) (fun k => [(5, .int .i64 k)]) (0) ?_ ⟨rfl, trivial⟩ (fun k hI => ?_)
 exact ⟨Nat.zero_le _, nofun⟩
 refine ar ?_
 refine ar ?_
 refine ah ?_
 refine ap (am rfl) rfl rfl ?_
 refine ap (am rfl) rfl rfl ?_
 refine ap (bI Try.underlying25 rfl) rfl rfl ?_
 refine ap (cV rfl rfl) rfl rfl ?_
 refine aC (t := 9) rfl (fun h2_3 => ?_) (fun h2_3 => ?_)
 refine ae ?_
 refine ao ?_
 refine aI rfl ?_
 refine bd ?_
 refine ao ?_
 refine ar ?_
 refine bn ?_
 refine ar ?_
 refine ah ?_
 refine ap (am rfl) rfl rfl ?_
 refine ap (am rfl) rfl rfl ?_
 refine ap (cj  Try.underlying25 bF rfl rfl (cD 0 rfl) rfl (by omega)) rfl rfl ?_
 refine ap (cR bB ([] : bg) bF rfl (cD 0 rfl) (by omega) rfl rfl) rfl rfl ?_
 refine ap (dS Try.underlying37 rfl) rfl rfl ?_
 refine ap (eo rfl rfl) rfl rfl ?_
 refine aC (t := 17) rfl (fun h4_5 => ?_) (fun h4_5 => ?_)
 refine ae ?_
 refine ao ?_
 refine aI rfl ?_
 refine ar ?_
 refine ah ?_
 refine ap (ai rfl) rfl rfl ?_
 refine ae ?_
 refine ao ?_
 refine aV ?_
 refine aT ?_
 refine aB ?_
 refine bL ?_
 refine aT ?_
 refine aB ?_
 refine aY (ts := [4]) rfl rfl rfl (fun w hw => ?_)
 exact ⟨(), by rw [lightN_bad (k := k) (by omega) (by omega)]; rfl, hw.base, (hw.weak (List.nil_sublist _) (fun s hs => hs)).toNews⟩
 refine ae ?_
 refine ao ?_
 refine aN rfl ?_
 refine bd ?_
 refine bV ?_
 refine ao ?_
 refine ah ?_
 refine ap (am rfl) rfl rfl ?_
 refine ap (bY rfl rfl (by omega) (by omega)) rfl rfl ?_
 refine ap (ai rfl) rfl rfl ?_
 refine ae ?_
 refine cr (k + 1) ?_ ?_ ⟨rfl, trivial⟩ (by repeat (first | exact trivial | refine ⟨rfl, ?_⟩)) aD
 exact ⟨by omega, gS hI.2 (by omega)⟩
 omega
 refine ae ?_
 refine ao ?_
 refine aN rfl ?_
 refine cz ?_
 refine br ?_
 refine bC ?_
 refine bK ?_
 refine ao ?_
 refine ar ?_
 refine ah ?_
 refine ap (am rfl) rfl rfl ?_
 refine ap (bI Try.underlying25 rfl) rfl rfl ?_
 refine ap (am rfl) rfl rfl ?_
 refine ap (eP rfl rfl) rfl rfl ?_
 refine ap (ai rfl) rfl rfl ?_
 refine ae ?_
 refine ao ?_
 refine aV ?_
 refine aY (ts := [4]) rfl rfl rfl (fun w hw => ?_)
 exact ⟨(), by rw [lightN_ok (fun i hi => hI.2 i (by omega))]; rfl, hw.base, (hw.weak (List.nil_sublist _) (fun s hs => hs)).toNews⟩

end Go.Proofs.Ytnpdgmoeoidppaa
