import Derived.Test.YtnpdgmoeoidppaaGreatLvQx
import Derived.Test.YtnpdgmoeoidppaaGreatLuQx
/- tables in plain words: what a push makes, what is told apart -/
namespace Go.Proofs.YtnpdgmoeoidppaaGreat
open Go.RowKit Go.Shelf
set_option linter.unusedVariables false
set_option linter.unusedSimpArgs false

theorem find_perm17 {α : Type} {l l' : List α} (hp : l'.Perm l) {F : α → Bool} (hu : ∀ a ∈ l, ∀ b ∈ l, F a = true → F b = true → a = b) : l'.find? F = l.find? F := by
  cases h1 : l.find? F with
  | none =>
    rw [List.find?_eq_none] at h1 ⊢
    exact fun a ha => h1 a (hp.mem_iff.1 ha)
  | some a =>
    have ha := List.mem_of_find?_eq_some h1
    have hF := List.find?_some h1
    cases h2 : l'.find? F with
    | none => exact absurd hF (List.find?_eq_none.1 h2 a (hp.mem_iff.2 ha))
    | some b => rw [hu a ha b (hp.mem_iff.1 (List.mem_of_find?_eq_some h2)) hF (List.find?_some h2)]
theorem up_eqR {α : Type} {R : α → α → Prop} (irr : ∀ a, ¬ R a a) (tr : ∀ a b c, R a b → R b c → R a c) : ∀ {xs ys : List α}, xs.Pairwise R → ys.Pairwise R → (∀ r, r ∈ xs ↔ r ∈ ys) → xs = ys
  | [], [], _, _, _ => rfl
  | [], y :: ys, _, _, h => absurd ((h y).2 (.head _)) nofun
  | x :: xs, [], _, _, h => absurd ((h x).1 (.head _)) nofun
  | x :: xs, y :: ys, h1, h2, h => by
    rw [List.pairwise_cons] at h1 h2
    have e : x = y := by
      rcases List.mem_cons.1 ((h x).1 (.head _)) with e | hx
      · exact e
      · rcases List.mem_cons.1 ((h y).2 (.head _)) with e | hy
        · exact e.symm
        · exact absurd (tr _ _ _ (h1.1 y hy) (h2.1 x hx)) (irr x)
    subst e
    have ht : ∀ r, r ∈ xs ↔ r ∈ ys := fun r => by
      constructor
      · intro hr
        rcases List.mem_cons.1 ((h r).1 (.tail _ hr)) with e | hy
        · exact absurd (e ▸ h1.1 r hr) (irr x)
        · exact hy
      · intro hr
        rcases List.mem_cons.1 ((h r).2 (.tail _ hr)) with e | hy
        · exact absurd (e ▸ h2.1 r hr) (irr x)
        · exact hy
    rw [up_eqR irr tr h1.2 h2.2 ht]
theorem gT : ∀ s t : List a6, d6 s t = d6 (s.map bO) (t.map bO)
  | [], [] => rfl
  | [], _ :: _ => rfl
  | _ :: _, [] => rfl
  | a :: s, b :: t => by
    simp only [List.map_cons, d6, lowS_idem]
    rw [gT s t]
theorem gh {a a' : a6} (ha : bd a = 0) (ha' : bd a' = 0) (h : a7 a = a7 a') (b : a6) : bR a b = bR a' b := by
  rw [bR, bR, gT, gT (bk a').reverse, List.map_reverse, List.map_reverse, (fold_labs ha ha').1 h, ← List.map_reverse]
theorem cmpN_self (a : a6) : bR a a = 0 := by have := dM a a; omega
theorem cmpN_ne {a b : a6} (ha : bd a = 0) (hb : bd b = 0) (h : bR a b < 0) : a7 a ≠ a7 b := fun e => by
  rw [(ea ha hb).2 e] at h; omega
/-- Entries in a table's order, of hosts that may be. -/
structure TbE (es : List En) : Prop where
  ck : ∀ e ∈ es, bd e.host = 0
  up : es.Pairwise fun a b => bR a.host b.host < 0
theorem tbe_nil : TbE [] := ⟨nofun, .nil⟩
theorem TbE.sub {es fs : List En} (h : TbE es) (hs : fs.Sublist es) : TbE fs := ⟨fun e he => h.ck e (hs.subset he), h.up.sublist hs⟩
theorem TbE.keys {es : List En} (h : TbE es) : (es.map fun e => a7 e.host).Nodup := by
  rw [List.Nodup, List.pairwise_map]
  have := h.up
  rw [List.pairwise_iff_getElem] at this ⊢
  exact fun i j hi hj hij => cmpN_ne (h.ck _ (List.getElem_mem hi)) (h.ck _ (List.getElem_mem hj)) (this i j hi hj hij)
theorem TbE.hosts {es : List En} (h : TbE es) : HostsOk es := ⟨h.ck, fun e he f hf hef => by
  obtain ⟨i, hi, rfl⟩ := List.mem_iff_getElem.1 he
  obtain ⟨j, hj, rfl⟩ := List.mem_iff_getElem.1 hf
  have hp := List.pairwise_iff_getElem.1 h.keys
  rcases Nat.lt_trichotomy i j with q | q | q
  · exact absurd (by rw [List.getElem_map, List.getElem_map]; exact hef) (hp i j (by simpa using hi) (by simpa using hj) q)
  · subst q; rfl
  · exact absurd (by rw [List.getElem_map, List.getElem_map]; exact hef.symm) (hp j i (by simpa using hj) (by simpa using hi) q)⟩
theorem tbe_eq {es fs : List En} (h : TbE es) (k : TbE fs) (hl : ∀ key, b8 es key = b8 fs key) : es = fs :=
  up_eqR (R := fun a b : En => bR a.host b.host < 0) (fun a q => by have := cmpN_self a.host; omega) (fun a b c q1 q2 => ef q1 q2) h.up k.up fun r => by
    constructor
    · intro hr; have := iV h.hosts hr; rw [hl] at this; exact (look_mem this).1
    · intro hr; have := iV k.hosts hr; rw [← hl] at this; exact (look_mem this).1
theorem gA {v : Int} {l : List Le} (h : bI v l = 0) : TbE (l.map (·.e)) := ⟨(tab_hosts h).ck, by
  rw [List.pairwise_iff_getElem]
  intro i j hi hj hij
  obtain ⟨d, rfl⟩ : ∃ d, j = i + d + 1 := ⟨j - i - 1, by omega⟩
  have h3 := rises_far (tab_zero h).2.1 i d (by simpa using hj)
  rw [List.getElem_map, List.getElem_map]
  have g : ∀ k (hk : k < l.length), hst l k = (l[k]).e.host := fun k hk => by rw [hst, List.getD_eq_getElem?_getD, List.getElem?_eq_getElem hk]; rfl
  rw [g _ (by simpa using hi), g _ (by simpa using hj)] at h3
  exact h3⟩
theorem look_nil (key : a6) : b8 [] key = none := rfl
theorem cD (e : En) (r : List En) (key : a6) : b8 (e :: r) key = if a7 e.host = key then some e else b8 r key := by
  rw [b8, List.find?_cons]
  by_cases h : a7 e.host = key
  · rw [decide_eq_true h, if_pos h]
  · rw [decide_eq_false h, if_neg h]; rfl
theorem jF (a b : List En) (key : a6) : b8 (a ++ b) key = (b8 a key).or (b8 b key) := by rw [b8, List.find?_append]; rfl
theorem look_none {es : List En} {key : a6} : b8 es key = none ↔ ∀ e ∈ es, a7 e.host ≠ key := by
  rw [b8, List.find?_eq_none]; simp
theorem look_filter {es : List En} {p : a6 → Bool} {key : a6} : b8 (es.filter fun e => p (a7 e.host)) key = if p key = true then b8 es key else none := by
  induction es with
  | nil => simp [look_nil]
  | cons e r ih =>
    rw [List.filter_cons]
    by_cases hp : p (a7 e.host) = true
    · rw [if_pos hp, cD, cD, ih]
      by_cases h : a7 e.host = key
      · rw [if_pos h, if_pos h, if_pos (by rw [← h]; exact hp)]
      · rw [if_neg h, if_neg h]
    · rw [if_neg hp, ih, cD]
      by_cases h : a7 e.host = key
      · rw [if_neg (by rw [← h]; exact hp), if_neg (by rw [← h]; exact hp)]
      · rw [if_neg h]
theorem putG_sub (x : Le) : ∀ (l : List Le), (d7 x true l).Sublist l
  | [] => by rw [d7]; exact .slnil
  | y :: r => by
    rw [d7]
    have ih := putG_sub x r
    show ([] ++ (if bR x.e.host y.e.host ≠ 0 then [y] else []) ++ d7 x true r).Sublist _
    split
    · exact .cons_cons _ ih
    · exact .cons _ ih
section
variable {x : Le} (hx : bd x.e.host = 0)
include hx
theorem look_putG {key : a6} : ∀ (l : List Le) (d : Bool), (∀ y ∈ l, bd y.e.host = 0) → b8 ((d7 x d l).map (·.e)) key = if a7 x.e.host = key then (if d = true then none else some x.e) else b8 (l.map (·.e)) key
  | [], d, _ => by
    cases d
    · show b8 [x.e] key = if a7 x.e.host = key then some x.e else b8 [] key
      exact cD _ _ _
    · show none = if a7 x.e.host = key then none else none
      split <;> rfl
  | y :: r, d, hl => by
    have ih := fun d => look_putG (key := key) r d (fun z hz => hl z (.tail _ hz))
    have hy : bd y.e.host = 0 := hl y (.head _)
    rw [d7, List.map_append, List.map_append, jF, jF, ih, List.map_cons, cD]
    by_cases hk : a7 x.e.host = key
    · rw [if_pos hk, if_pos hk]
      have h2 : b8 ((if bR x.e.host y.e.host ≠ 0 then [y] else []).map (·.e)) key = none := by
        split
        · rename_i h; exact (cD _ _ _).trans (if_neg (fun q => h ((ea hx hy).2 (hk.trans q.symm))))
        · rfl
      rw [h2]
      cases d
      · by_cases hc : bR x.e.host y.e.host ≤ 0
        · rw [decide_eq_true hc]
          show ((b8 [x.e] key).or none).or _ = _
          rw [cD, if_pos hk]; rfl
        · rw [decide_eq_false hc]; rfl
      · show (none.or none).or _ = _
        simp
    · rw [if_neg hk, if_neg hk]
      have h1 : b8 ((if (!d && decide (bR x.e.host y.e.host ≤ 0)) = true then [x] else []).map (·.e)) key = none := by
        split
        · exact (cD _ _ _).trans (if_neg hk)
        · rfl
      rw [h1, Option.none_or]
      by_cases hc : bR x.e.host y.e.host ≠ 0
      · rw [if_pos hc]
        show (b8 [y.e] key).or _ = _
        rw [cD]
        split <;> rfl
      · rw [if_neg hc, if_neg (fun q => hk (((ea hx hy).1 (Decidable.not_not.1 hc)).trans q))]; rfl
theorem putG_up : ∀ (l : List Le), TbE (l.map (·.e)) → ((d7 x false l).map (·.e)).Pairwise fun a b => bR a.host b.host < 0
  | [], _ => by rw [d7]; exact List.pairwise_singleton _ _
  | y :: r, h => by
    have hy : bd y.e.host = 0 := h.ck _ (.head _)
    obtain ⟨h1, h2⟩ := List.pairwise_cons.1 h.up
    have hr : TbE (r.map (·.e)) := ⟨fun e he => h.ck e (.tail _ he), h2⟩
    rw [d7]
    by_cases hc : bR x.e.host y.e.host ≤ 0
    · rw [decide_eq_true hc]
      have hsub := (putG_sub x r).map (·.e)
      have hrest : (((if bR x.e.host y.e.host ≠ 0 then [y] else []) ++ d7 x true r).map (·.e)).Sublist ((y :: r).map (·.e)) := by
        split
        · exact .cons_cons _ hsub
        · exact .cons _ hsub
      show (([x] ++ (if bR x.e.host y.e.host ≠ 0 then [y] else []) ++ d7 x (false || true) r).map (·.e)).Pairwise _
      rw [List.append_assoc]
      refine List.pairwise_cons.2 ⟨fun z hz => ?_, h.up.sublist hrest⟩
      by_cases h0 : bR x.e.host y.e.host = 0
      · have hz2 : z ∈ r.map (·.e) := by
          rw [if_neg (fun q => q h0)] at hz
          exact hsub.subset hz
        have := h1 z hz2
        rw [gh hx hy ((ea hx hy).1 h0)]; exact this
      · rcases List.mem_cons.1 (hrest.subset hz) with rfl | hz2
        · exact (by omega : bR x.e.host y.e.host < 0)
        · exact ef (by omega : bR x.e.host y.e.host < 0) (h1 z hz2)
    · have h9 : bR x.e.host y.e.host ≠ 0 := by omega
      rw [decide_eq_false hc, if_pos h9]
      show ((y :: d7 x false r).map (·.e)).Pairwise _
      refine List.pairwise_cons.2 ⟨fun z hz => ?_, putG_up r hr⟩
      obtain ⟨q, hq, rfl⟩ := List.mem_map.1 hz
      rcases iD hq with rfl | hq
      · have := dM q.e.host y.e.host; show bR y.e.host q.e.host < 0; omega
      · exact h1 _ (List.mem_map.2 ⟨q, hq, rfl⟩)
theorem putE_tbe {l : List Le} (h : TbE (l.map (·.e))) : TbE ((fQ l x).map (·.e)) := ⟨fun e he => by
  obtain ⟨q, hq, rfl⟩ := List.mem_map.1 he
  rcases iD hq with rfl | hq
  · exact hx
  · exact h.ck _ (List.mem_map.2 ⟨q, hq, rfl⟩), putG_up hx l h⟩
theorem putE_look {l : List Le} (h : TbE (l.map (·.e))) (key : a6) : b8 ((fQ l x).map (·.e)) key = if a7 x.e.host = key then some x.e else b8 (l.map (·.e)) key := by
  rw [fQ, look_putG hx l false (fun y hy => h.ck _ (List.mem_map.2 ⟨y, hy, rfl⟩))]; simp
end
theorem putAll_tbe : ∀ {p l : List Le}, (∀ x ∈ p, bd x.e.host = 0) → TbE (l.map (·.e)) → TbE ((dz l p).map (·.e))
  | [], _, _, h => h
  | x :: p, l, hp, h => putAll_tbe (p := p) (fun y hy => hp y (.tail _ hy)) (putE_tbe (hp x (.head _)) h)
theorem iz {key : a6} : ∀ {p l : List Le}, (∀ x ∈ p, bd x.e.host = 0) → (p.map fun y : Le => a7 y.e.host).Nodup → TbE (l.map (·.e)) → b8 ((dz l p).map (·.e)) key = (b8 (p.map (·.e)) key).or (b8 (l.map (·.e)) key)
  | [], _, _, _, _ => rfl
  | x :: p, l, hp, hn, h => by
    rw [List.map_cons, List.nodup_cons] at hn
    show b8 ((dz (fQ l x) p).map (·.e)) key = _
    rw [iz (fun y hy => hp y (.tail _ hy)) hn.2 (putE_tbe (hp x (.head _)) h), putE_look (hp x (.head _)) h, List.map_cons, cD]
    by_cases hk : a7 x.e.host = key
    · have : b8 (p.map (·.e)) key = none := look_none.2 fun e he q => by
        obtain ⟨y, hy, rfl⟩ := List.mem_map.1 he
        exact hn.1 (List.mem_map.2 ⟨y, hy, q.trans hk.symm⟩)
      rw [this, if_pos hk, if_pos hk]; rfl
    · rw [if_neg hk, if_neg hk]
/-- What is left when some hosts are dropped; none: one of them isn't there. -/
def ce : List Le → List a6 → Option (List Le)
  | l, [] => some l
  | l, n :: r => if (b8 (l.map (·.e)) (a7 n)).isSome = true then ce (l.filter fun y => decide (a7 y.e.host ≠ a7 n)) r else none
theorem g5 (l : List Le) (p : a6 → Bool) : (l.filter fun y => p (a7 y.e.host)).map (·.e) = (l.map (·.e)).filter fun e => p (a7 e.host) := by
  rw [List.filter_map]; rfl
theorem jX {key : a6} : ∀ {ds : List a6} {l r : List Le}, ce l ds = some r → b8 (r.map (·.e)) key = if key ∈ ds.map a7 then none else b8 (l.map (·.e)) key
  | [], l, r, h => by rw [ce] at h; cases h; simp
  | n :: ds, l, r, h => by
    rw [ce] at h
    split at h
    · rw [jX h, g5 l (fun s => decide (s ≠ a7 n)), look_filter (p := fun s => decide (s ≠ a7 n)), List.map_cons]
      by_cases hk : key ∈ ds.map a7
      · rw [if_pos hk, if_pos (.tail _ hk)]
      · rw [if_neg hk]
        by_cases hn : key = a7 n
        · rw [if_neg (by simp [hn]), if_pos (by rw [hn]; exact .head _)]
        · rw [if_pos (by simpa using hn), if_neg (fun q => (List.mem_cons.1 q).elim hn hk)]
    · cases h
theorem iO : ∀ {ds : List a6} {l r : List Le}, ce l ds = some r → r.Sublist l
  | [], l, r, h => by rw [ce] at h; cases h; exact .refl _
  | n :: ds, l, r, h => by
    rw [ce] at h
    split at h
    · exact (iO h).trans List.filter_sublist
    · cases h
theorem dropAll_e : ∀ {ds : List a6} {l l' : List Le}, l.map (·.e) = l'.map (·.e) → (ce l ds).map (·.map (·.e)) = (ce l' ds).map (·.map (·.e))
  | [], l, l', h => by rw [ce, ce]; exact congrArg some h
  | n :: ds, l, l', h => by
    rw [ce, ce, h]
    split
    · exact dropAll_e (by rw [g5 l (fun s => decide (s ≠ a7 n)), g5 l' (fun s => decide (s ≠ a7 n)), h])
    · rfl
def dA (v : Int) (full : Bool) (bs ver : Int) (nd : Nat) : Int := if ver ≤ v ∨ 2147483647 < ver then 9 else if full = true then (if bs ≠ 0 ∨ 0 < nd then 2 else 0) else if bs ≠ v then 9 else 0
def dm : List a6 → Int
  | [] => 0
  | n :: r => if bd n ≠ 0 then bd n else dm r
theorem namesCk_zero : ∀ {l : List a6}, dm l = 0 ↔ ∀ n ∈ l, bd n = 0
  | [] => by simp [dm]
  | d :: r => by
    rw [dm]
    by_cases h : bd d ≠ 0
    · rw [if_pos h]; simp [h]
    · rw [if_neg h, namesCk_zero]
      have : bd d = 0 := by omega
      simp [this]
/-- The hosts that a push names. -/
def cK (put : List Le) (drop : List a6) : List a6 := (put.map fun y : Le => a7 y.e.host) ++ drop.map a7
def ct (put : List Le) (drop : List a6) : Int := if cA put ≠ 0 then cA put else if dm drop ≠ 0 then dm drop else if (cK put drop).Nodup then 0 else 6
/-- A table behind a push: the error, the entries. -/
def bx (v : Int) (l : List Le) (full : Bool) (bs ver : Int) (put : List Le) (drop : List a6) : Int × List Le :=
  if bI v l ≠ 0 then (bI v l, []) else if dA v full bs ver drop.length ≠ 0 then (dA v full bs ver drop.length, []) else if ct put drop ≠ 0 then (ct put drop, []) else
  match ce (if full = true then [] else l) drop with
  | none => (5, [])
  | some r => if 256 < (dz r put).length then (3, []) else (0, dz r put)
structure ApplyOk (v : Int) (l : List Le) (full : Bool) (bs ver : Int) (put : List Le) (drop : List a6) (r : List Le) : Prop where
  tab : bI v l = 0
  ver1 : v < ver ∧ ver ≤ 2147483647
  full1 : full = true → bs = 0 ∧ drop = []
  base : full = false → bs = v
  ents : ∀ x ∈ put, cV x.e = 0
  names : ∀ n ∈ drop, bd n = 0
  dis : (cK put drop).Nodup
  mid : ∃ m, ce (if full = true then [] else l) drop = some m ∧ r = dz m put
  len : r.length ≤ 256
theorem form_zero {v : Int} {full : Bool} {bs ver : Int} {drop : List a6} : dA v full bs ver drop.length = 0 ↔ (v < ver ∧ ver ≤ 2147483647) ∧ (full = true → bs = 0 ∧ drop = []) ∧ (full = false → bs = v) := by
  unfold dA
  cases full
  · simp only [Bool.false_eq_true, if_false, false_imp_iff, true_imp_iff, true_and]
    constructor
    · intro h
      split at h
      · omega
      · split at h
        · omega
        · exact ⟨by omega, by omega⟩
    · rintro ⟨h1, h2⟩
      rw [if_neg (by omega), if_neg (fun q => q h2)]
  · simp only [if_true, true_imp_iff, Bool.true_eq_false, false_imp_iff, and_true]
    constructor
    · intro h
      split at h
      · omega
      · split at h
        · omega
        · rename_i h1 h2
          refine ⟨by omega, by omega, ?_⟩
          cases drop with
          | nil => rfl
          | cons a r => exact absurd (.inr (Nat.succ_pos _)) h2
    · rintro ⟨h1, h2, h3⟩
      subst h3
      rw [if_neg (by omega), if_neg (fun q => q.elim (fun q => q h2) (fun q => absurd q (Nat.lt_irrefl 0)))]
theorem parts_zero {put : List Le} {drop : List a6} : ct put drop = 0 ↔ (∀ x ∈ put, cV x.e = 0) ∧ (∀ n ∈ drop, bd n = 0) ∧ (cK put drop).Nodup := by
  rw [← entsCk_zero, ← namesCk_zero]
  unfold ct
  constructor
  · intro h
    split at h
    · omega
    · split at h
      · omega
      · split at h
        · rename_i h1 h2 h3; exact ⟨by omega, by omega, h3⟩
        · omega
  · rintro ⟨h1, h2, h3⟩
    rw [if_neg (fun q => q h1), if_neg (fun q => q h2), if_pos h3]
theorem apply_ok {v : Int} {l : List Le} {full : Bool} {bs ver : Int} {put : List Le} {drop : List a6} {r : List Le} : bx v l full bs ver put drop = (0, r) ↔ ApplyOk v l full bs ver put drop r := by
  constructor
  · intro h
    unfold bx at h
    split at h
    · have := congrArg Prod.fst h; simp only at this; omega
    · split at h
      · have := congrArg Prod.fst h; simp only at this; omega
      · split at h
        · have := congrArg Prod.fst h; simp only at this; omega
        · split at h
          · have := congrArg Prod.fst h; simp only at this; omega
          · split at h
            · have := congrArg Prod.fst h; simp only at this; omega
            · rename_i h1 h2 h3 x m hm h5
              have e : dz m put = r := congrArg Prod.snd h
              obtain ⟨f1, f2, f3⟩ := form_zero.1 (Decidable.not_not.1 h2)
              obtain ⟨p1, p2, p3⟩ := parts_zero.1 (Decidable.not_not.1 h3)
              exact ⟨Decidable.not_not.1 h1, f1, f2, f3, p1, p2, p3, ⟨m, hm, e.symm⟩, by rw [← e]; omega⟩
  · intro h
    obtain ⟨m, hm, rfl⟩ := h.mid
    have hlen := h.len
    rw [bx, if_neg (fun q => q h.tab), if_neg (fun q => q (form_zero.2 ⟨h.ver1, h.full1, h.base⟩)), if_neg (fun q => q (parts_zero.2 ⟨h.ents, h.names, h.dis⟩)), hm]
    show (if 256 < (dz m put).length then _ else _) = _
    rw [if_neg (by omega)]
theorem ApplyOk.mid_tbe {v : Int} {l : List Le} {full : Bool} {bs ver : Int} {put : List Le} {drop : List a6} {r m : List Le} (h : ApplyOk v l full bs ver put drop r) (hm : ce (if full = true then [] else l) drop = some m) : TbE (m.map (·.e)) := by
  refine TbE.sub ?_ ((iO hm).map (·.e))
  cases full
  · exact gA h.tab
  · exact tbe_nil
theorem ApplyOk.hck {v : Int} {l : List Le} {full : Bool} {bs ver : Int} {put : List Le} {drop : List a6} {r : List Le} (h : ApplyOk v l full bs ver put drop r) : ∀ x ∈ put, bd x.e.host = 0 := fun x hx => j3 (h.ents x hx)
theorem ApplyOk.pnd {v : Int} {l : List Le} {full : Bool} {bs ver : Int} {put : List Le} {drop : List a6} {r : List Le} (h : ApplyOk v l full bs ver put drop r) : (put.map fun y : Le => a7 y.e.host).Nodup := (List.nodup_append.1 h.dis).1
/-- What is behind a push: what was put; what was there and not dropped. -/
theorem ApplyOk.look {v : Int} {l : List Le} {full : Bool} {bs ver : Int} {put : List Le} {drop : List a6} {r : List Le} (h : ApplyOk v l full bs ver put drop r) (key : a6) :
    b8 (r.map (·.e)) key = (b8 (put.map (·.e)) key).or (if full = true then none else if key ∈ drop.map a7 then none else b8 (l.map (·.e)) key) := by
  obtain ⟨m, hm, rfl⟩ := h.mid
  rw [iz h.hck h.pnd (h.mid_tbe hm), jX hm]
  cases full
  · rfl
  · show _ = (b8 _ key).or none
    congr 1
    show (if _ then none else none) = none
    split <;> rfl
theorem jJ : ∀ {p l : List Le} {y : Le}, y ∈ dz l p → y ∈ l ∨ y ∈ p
  | [], _, _, h => .inl h
  | x :: p, l, y, h => by
    rcases jJ (p := p) h with h | h
    · rcases iD h with rfl | h
      · exact .inr (.head _)
      · exact .inl h
    · exact .inr (.tail _ h)
theorem ApplyOk.mem {v : Int} {l : List Le} {full : Bool} {bs ver : Int} {put : List Le} {drop : List a6} {r : List Le} (h : ApplyOk v l full bs ver put drop r) {y : Le} (hy : y ∈ r) : y ∈ l ∨ y ∈ put := by
  obtain ⟨m, hm, rfl⟩ := h.mid
  refine (jJ hy).imp (fun q => ?_) id
  have := (iO hm).subset q
  cases full
  · exact this
  · cases this
theorem putE_e17 (l : List Le) (x : Le) : (fQ l x).map (·.e) = (fQ ((l.map (·.e)).map fun e => ⟨e, none, 0, none, 0⟩) ⟨x.e, none, 0, none, 0⟩).map (·.e) := by
  have h : ∀ (l : List Le) (d : Bool), (d7 x d l).map (·.e) = (d7 ⟨x.e, none, 0, none, 0⟩ d ((l.map (·.e)).map fun e => ⟨e, none, 0, none, 0⟩)).map (·.e) := by
    intro l
    induction l with
    | nil => intro d; cases d <;> rfl
    | cons y r ih =>
      intro d
      simp only [List.map_cons, d7, List.map_append, ih]
      congr 1
      congr 1
      · split <;> rfl
      · split <;> rfl
  exact h l false
theorem putAll_e17 : ∀ {p p' l l' : List Le}, p.map (·.e) = p'.map (·.e) → l.map (·.e) = l'.map (·.e) → (dz l p).map (·.e) = (dz l' p').map (·.e)
  | [], [], _, _, _, h => h
  | [], _ :: _, _, _, h, _ => by cases h
  | _ :: _, [], _, _, h, _ => by cases h
  | x :: p, x' :: p', l, l', hp, h => by
    rw [List.map_cons, List.map_cons, List.cons.injEq] at hp
    exact putAll_e17 (p := p) (p' := p') hp.2 (by rw [putE_e17, putE_e17 l', h, hp.1])
theorem jm : ∀ {l l' : List Le}, l.map (·.e) = l'.map (·.e) → cA l = cA l'
  | [], [], _ => rfl
  | [], _ :: _, h => by cases h
  | _ :: _, [], h => by cases h
  | x :: r, y :: s, h => by
    rw [List.map_cons, List.map_cons, List.cons.injEq] at h
    rw [cA, cA, h.1, jm h.2]
theorem dI (l : List Le) (i : Nat) : (l.getD i bm).e = (l.map (·.e)).getD i en0 := by
  rw [List.getD_eq_getElem?_getD, List.getD_eq_getElem?_getD, List.getElem?_map]
  cases l[i]? <;> rfl
theorem tab_e17 (v : Int) {l l' : List Le} (h : l.map (·.e) = l'.map (·.e)) : bI v l = bI v l' := by
  have h1 : l.length = l'.length := by have := congrArg List.length h; simpa using this
  have h2 : ir l ↔ ir l' := by
    unfold ir
    rw [h1]
    simp only [dI, h]
  unfold bI
  rw [h1, jm h]
  simp only [h2]
/-- The same entries, the same push: the same table. -/
theorem fX {v : Int} {l l' : List Le} {full : Bool} {bs ver : Int} {put put' : List Le} {drop : List a6} (hl : l.map (·.e) = l'.map (·.e)) (hp : put.map (·.e) = put'.map (·.e)) :
    (bx v l full bs ver put drop).1 = (bx v l' full bs ver put' drop).1 ∧ (bx v l full bs ver put drop).2.map (·.e) = (bx v l' full bs ver put' drop).2.map (·.e) := by
  have h1 : ct put drop = ct put' drop := by
    have : (put.map fun y : Le => a7 y.e.host) = put'.map fun y : Le => a7 y.e.host := by
      have := congrArg (List.map fun e : En => a7 e.host) hp
      simpa [List.map_map, Function.comp_def] using this
    rw [ct, ct, cK, cK, jm hp, this]
  have h2 : (ce (if full = true then [] else l) drop).map (·.map (·.e)) = (ce (if full = true then [] else l') drop).map (·.map (·.e)) := dropAll_e (by cases full; exact hl; rfl)
  unfold bx
  rw [tab_e17 v hl, h1]
  split
  · exact ⟨rfl, rfl⟩
  · split
    · exact ⟨rfl, rfl⟩
    · split
      · exact ⟨rfl, rfl⟩
      · cases hm : ce (if full = true then [] else l) drop with
        | none =>
          cases hm' : ce (if full = true then [] else l') drop with
          | none => exact ⟨rfl, rfl⟩
          | some m' => rw [hm, hm'] at h2; cases h2
        | some m =>
          cases hm' : ce (if full = true then [] else l') drop with
          | none => rw [hm, hm'] at h2; cases h2
          | some m' =>
            rw [hm, hm'] at h2
            have h3 : m.map (·.e) = m'.map (·.e) := Option.some.inj h2
            have h4 := putAll_e17 hp h3
            have h5 : (dz m put).length = (dz m' put').length := by have := congrArg List.length h4; simpa using this
            show (if _ then _ else _ : Int × List Le).1 = (if _ then _ else _ : Int × List Le).1 ∧ (if _ then _ else _ : Int × List Le).2.map _ = (if _ then _ else _ : Int × List Le).2.map _
            rw [h5]
            split
            · exact ⟨rfl, rfl⟩
            · exact ⟨rfl, h4⟩
theorem look_perm {es fs : List En} (h : HostsOk es) (hp : fs.Perm es) (key : a6) : b8 fs key = b8 es key := find_perm17 hp fun a ha b hb h1 h2 => h.dis a ha b hb ((of_decide_eq_true h1).trans (of_decide_eq_true h2).symm)
theorem look_hosts {es fs : List En} (h : HostsOk es) (hs : ∀ e ∈ fs, e ∈ es) : HostsOk fs := ⟨fun e he => h.ck e (hs e he), fun e he f hf q => h.dis e (hs e he) f (hs f hf) q⟩
theorem eG {l k : List Le} (h : l.map (·.e) = k.map (·.e)) : l.length = k.length := by have := congrArg List.length h; simpa using this
/-- What is to be put, to make the other table; what is to be dropped. -/
def dx (l k : List Le) : List Le := k.filter fun y => decide (b8 (l.map (·.e)) (a7 y.e.host) ≠ some y.e)
def dd (l k : List Le) : List a6 := (l.filter fun x => !(b8 (k.map (·.e)) (a7 x.e.host)).isSome).map (·.e.host)
theorem diffPut_len (l k : List Le) : (dx l k).length ≤ k.length := List.length_filter_le _ _
theorem jC (l k : List Le) : (dd l k).length ≤ l.length := by rw [dd, List.length_map]; exact List.length_filter_le _ _
/-- Two rows in order, gone through side by side. -/
def gY : Nat → List Le → List Le → List (Option Le × Option Le)
  | 0, _, _ => []
  | _ + 1, [], [] => []
  | n + 1, x :: a, [] => (some x, none) :: gY n a []
  | n + 1, [], y :: b => (none, some y) :: gY n [] b
  | n + 1, x :: a, y :: b => if bR x.e.host y.e.host < 0 then (some x, none) :: gY n a (y :: b) else if 0 < bR x.e.host y.e.host then (none, some y) :: gY n (x :: a) b else (some x, some y) :: gY n a b
/-- .. by places. -/
def mrg : Nat → Nat → List Le → Nat → List Le → List (Option Nat × Option Nat)
  | 0, _, _, _, _ => []
  | _ + 1, _, [], _, [] => []
  | n + 1, i, _ :: a, j, [] => (some i, none) :: mrg n (i + 1) a j []
  | n + 1, i, [], j, _ :: b => (none, some j) :: mrg n i [] (j + 1) b
  | n + 1, i, x :: a, j, y :: b => if bR x.e.host y.e.host < 0 then (some i, none) :: mrg n (i + 1) a j (y :: b) else if 0 < bR x.e.host y.e.host then (none, some j) :: mrg n i (x :: a) (j + 1) b else (some i, some j) :: mrg n (i + 1) a (j + 1) b
theorem gO : ∀ (n m : Nat) (i : Nat) (a : List Le) (j : Nat) (b : List Le), a.length + b.length ≤ n → a.length + b.length ≤ m → mrg n i a j b = mrg m i a j b
  | 0, 0, _, _, _, _, _, _ => rfl
  | 0, m + 1, i, a, j, b, h, _ => by
    have h1 : a = [] := List.length_eq_zero_iff.1 (by omega)
    have h2 : b = [] := List.length_eq_zero_iff.1 (by omega)
    subst h1 h2; rfl
  | n + 1, 0, i, a, j, b, _, h => by
    have h1 : a = [] := List.length_eq_zero_iff.1 (by omega)
    have h2 : b = [] := List.length_eq_zero_iff.1 (by omega)
    subst h1 h2; rfl
  | n + 1, m + 1, i, a, j, b, h1, h2 => by
    cases a with
    | nil =>
      cases b with
      | nil => rfl
      | cons y b =>
        rw [mrg, mrg, gO n m i [] (j + 1) b (by simp at h1 ⊢; omega) (by simp at h2 ⊢; omega)]
    | cons x a =>
      cases b with
      | nil => rw [mrg, mrg, gO n m (i + 1) a j [] (by simp at h1 ⊢; omega) (by simp at h2 ⊢; omega)]
      | cons y b =>
        rw [mrg, mrg, gO n m (i + 1) a j (y :: b) (by simp at h1 ⊢; omega) (by simp at h2 ⊢; omega), gO n m i (x :: a) (j + 1) b (by simp at h1 ⊢; omega) (by simp at h2 ⊢; omega), gO n m (i + 1) a (j + 1) b (by simp at h1 ⊢; omega) (by simp at h2 ⊢; omega)]
/-- What is yet to come, from two places on. -/
def dJ (l p : List Le) (i j : Nat) : List (Option Nat × Option Nat) := mrg ((l.length - i) + (p.length - j)) i (l.drop i) j (p.drop j)
theorem eU {l p : List Le} {i j : Nat} (hi : l.length ≤ i) (hj : p.length ≤ j) : dJ l p i j = [] := by
  rw [dJ, show (l.length - i) + (p.length - j) = 0 by omega, mrg]
theorem ed {l p : List Le} {i j : Nat} (hi : i < l.length) (h : p.length ≤ j ∨ bR (l.getD i bm).e.host (p.getD j bm).e.host < 0) : dJ l p i j = (some i, none) :: dJ l p (i + 1) j := by
  rw [dJ, dJ, show (l.length - i) + (p.length - j) = ((l.length - (i + 1)) + (p.length - j)) + 1 by omega, bG l bm i hi]
  by_cases hj : p.length ≤ j
  · rw [List.drop_of_length_le hj, mrg]
  · rw [bG p bm j (by omega), mrg, if_pos (h.resolve_left hj)]
theorem ee {l p : List Le} {i j : Nat} (hj : j < p.length) (h : l.length ≤ i ∨ 0 < bR (l.getD i bm).e.host (p.getD j bm).e.host) : dJ l p i j = (none, some j) :: dJ l p i (j + 1) := by
  rw [dJ, dJ, show (l.length - i) + (p.length - j) = ((l.length - i) + (p.length - (j + 1))) + 1 by omega, bG p bm j hj]
  by_cases hi : l.length ≤ i
  · rw [List.drop_of_length_le hi, mrg]
  · have := h.resolve_left hi
    rw [bG l bm i (by omega), mrg, if_neg (by omega), if_pos this]
theorem fF {l p : List Le} {i j : Nat} (hi : i < l.length) (hj : j < p.length) (h : bR (l.getD i bm).e.host (p.getD j bm).e.host = 0) : dJ l p i j = (some i, some j) :: dJ l p (i + 1) (j + 1) := by
  rw [dJ, dJ, show (l.length - i) + (p.length - j) = ((l.length - (i + 1)) + (p.length - j)) + 1 by omega, bG l bm i hi, bG p bm j hj, mrg, if_neg (by omega), if_neg (by omega)]
  congr 1
  exact gO _ _ _ _ _ _ (by simp; omega) (by simp)
def g9 (l p : List Le) (q : Option Nat × Option Nat) : Option Le × Option Le := (q.1.map (l.getD · bm), q.2.map (p.getD · bm))
theorem mrg_V (l p : List Le) : ∀ (n i j : Nat), (mrg n i (l.drop i) j (p.drop j)).map (g9 l p) = gY n (l.drop i) (p.drop j)
  | 0, _, _ => rfl
  | n + 1, i, j => by
    by_cases hi : i < l.length
    · rw [bG l bm i hi]
      by_cases hj : j < p.length
      · rw [bG p bm j hj, mrg, gY]
        have e1 := mrg_V l p n (i + 1) j
        have e2 := mrg_V l p n i (j + 1)
        have e3 := mrg_V l p n (i + 1) (j + 1)
        rw [bG p bm j hj] at e1
        rw [bG l bm i hi] at e2
        split
        · rw [List.map_cons, e1]; rfl
        · split
          · rw [List.map_cons, e2]; rfl
          · rw [List.map_cons, e3]; rfl
      · have e1 := mrg_V l p n (i + 1) j
        have ep : p.drop j = [] := List.drop_of_length_le (by omega)
        rw [ep] at e1 ⊢
        rw [mrg, gY, List.map_cons, e1]; rfl
    · have e2 := mrg_V l p n i (j + 1)
      have el : l.drop i = [] := List.drop_of_length_le (by omega)
      rw [el] at e2 ⊢
      by_cases hj : j < p.length
      · rw [bG p bm j hj, mrg, gY, List.map_cons, e2]; rfl
      · rw [List.drop_of_length_le (by omega), mrg, gY]; rfl
def outV (q : Option Le × Option Le) : Le := (q.2.or q.1).getD bm
def gp (n : Nat) (a b : List Le) : List Le := (gY n a b).map outV
theorem eY : ∀ (n : Nat) {a b : List Le} {z : Le}, z ∈ gp n a b → z ∈ a ∨ z ∈ b
  | 0, _, _, _, h => by cases h
  | n + 1, [], [], _, h => by cases h
  | n + 1, x :: a, [], z, h => by
    rcases List.mem_cons.1 (show z ∈ x :: gp n a [] from h) with rfl | h
    · exact .inl (.head _)
    · exact (eY n h).imp (.tail _) id
  | n + 1, [], y :: b, z, h => by
    rcases List.mem_cons.1 (show z ∈ y :: gp n [] b from h) with rfl | h
    · exact .inr (.head _)
    · exact (eY n h).imp id (.tail _)
  | n + 1, x :: a, y :: b, z, h => by
    rw [gp, gY] at h
    split at h
    · rcases List.mem_cons.1 (show z ∈ x :: gp n a (y :: b) from h) with rfl | h
      · exact .inl (.head _)
      · exact (eY n h).imp (.tail _) id
    · split at h
      · rcases List.mem_cons.1 (show z ∈ y :: gp n (x :: a) b from h) with rfl | h
        · exact .inr (.head _)
        · exact (eY n h).imp id (.tail _)
      · rcases List.mem_cons.1 (show z ∈ y :: gp n a b from h) with rfl | h
        · exact .inr (.head _)
        · exact (eY n h).imp (.tail _) (.tail _)
theorem eA {x : Le} {a : List Le} (h : TbE ((x :: a).map (·.e))) : bd x.e.host = 0 ∧ (∀ z ∈ a, bR x.e.host z.e.host < 0) ∧ TbE (a.map (·.e)) := by
  obtain ⟨h1, h2⟩ := List.pairwise_cons.1 h.up
  exact ⟨h.ck _ (.head _), fun z hz => h1 _ (List.mem_map.2 ⟨z, hz, rfl⟩), fun e he => h.ck e (.tail _ he), h2⟩
theorem tbe_of {x : Le} {a : List Le} (h1 : bd x.e.host = 0) (h2 : ∀ z ∈ a, bR x.e.host z.e.host < 0) (h3 : TbE (a.map (·.e))) : TbE ((x :: a).map (·.e)) :=
  ⟨fun e he => by
    rcases List.mem_cons.1 (show e ∈ x.e :: a.map (·.e) from he) with rfl | he
    · exact h1
    · exact h3.ck e he, List.pairwise_cons.2 ⟨fun e he => by
      obtain ⟨z, hz, rfl⟩ := List.mem_map.1 he
      exact h2 z hz, h3.up⟩⟩
theorem gV : ∀ (n : Nat) {a b : List Le}, TbE (a.map (·.e)) → TbE (b.map (·.e)) → TbE ((gp n a b).map (·.e))
  | 0, _, _, _, _ => tbe_nil
  | n + 1, [], [], _, _ => tbe_nil
  | n + 1, x :: a, [], ha, hb => by
    obtain ⟨h1, h2, h3⟩ := eA ha
    exact tbe_of (a := gp n a []) h1 (fun z hz => (eY n hz).elim (h2 z) nofun) (gV n h3 hb)
  | n + 1, [], y :: b, ha, hb => by
    obtain ⟨h1, h2, h3⟩ := eA hb
    exact tbe_of (a := gp n [] b) h1 (fun z hz => (eY n hz).elim nofun (h2 z)) (gV n ha h3)
  | n + 1, x :: a, y :: b, ha, hb => by
    obtain ⟨h1, h2, h3⟩ := eA ha
    obtain ⟨k1, k2, k3⟩ := eA hb
    rw [gp, gY]
    split
    · rename_i hc
      exact tbe_of (a := gp n a (y :: b)) h1 (fun z hz => (eY n hz).elim (h2 z) fun q => by
        rcases List.mem_cons.1 q with rfl | q
        · exact hc
        · exact ef hc (k2 z q)) (gV n h3 hb)
    · split
      · rename_i hc
        have hc2 : bR y.e.host x.e.host < 0 := by rw [dM x.e.host]; omega
        exact tbe_of (a := gp n (x :: a) b) k1 (fun z hz => (eY n hz).elim (fun q => by
          rcases List.mem_cons.1 q with rfl | q
          · exact hc2
          · exact ef hc2 (h2 z q)) (k2 z)) (gV n ha k3)
      · rename_i c1 c2
        have hc : bR x.e.host y.e.host = 0 := by omega
        have hf := (ea h1 k1).1 hc
        exact tbe_of (a := gp n a b) k1 (fun z hz => (eY n hz).elim (fun q => by
          have e9 := gh k1 h1 hf.symm z.e.host
          have e8 := h2 z q
          show bR y.e.host z.e.host < 0
          rw [e9]; exact e8) (k2 z)) (gV n h3 k3)
theorem look_lt {x : Le} {b : List Le} (hx : bd x.e.host = 0) (hb : TbE (b.map (·.e))) (h : ∀ z ∈ b, bR x.e.host z.e.host < 0) : b8 (b.map (·.e)) (a7 x.e.host) = none := look_none.2 fun e he q => by
  obtain ⟨z, hz, rfl⟩ := List.mem_map.1 he
  exact cmpN_ne hx (hb.ck _ he) (h z hz) q.symm
theorem lt_all {x y : Le} {b : List Le} (hc : bR x.e.host y.e.host < 0) (h : ∀ z ∈ b, bR y.e.host z.e.host < 0) : ∀ z ∈ y :: b, bR x.e.host z.e.host < 0 := fun z hz => by
  rcases List.mem_cons.1 hz with rfl | hz
  · exact hc
  · exact ef hc (h z hz)
theorem gg {key : a6} : ∀ (n : Nat) {a b : List Le}, a.length + b.length ≤ n → TbE (a.map (·.e)) → TbE (b.map (·.e)) → b8 ((gp n a b).map (·.e)) key = (b8 (b.map (·.e)) key).or (b8 (a.map (·.e)) key)
  | 0, a, b, h, _, _ => by
    have h1 : a = [] := List.length_eq_zero_iff.1 (by omega)
    have h2 : b = [] := List.length_eq_zero_iff.1 (by omega)
    subst h1 h2; rfl
  | n + 1, [], [], _, _, _ => rfl
  | n + 1, x :: a, [], h, ha, hb => by
    obtain ⟨h1, h2, h3⟩ := eA ha
    show b8 ((x :: gp n a []).map (·.e)) key = _
    rw [List.map_cons, cD, gg n (by simp at h ⊢; omega) h3 hb, List.map_cons, cD]; rfl
  | n + 1, [], y :: b, h, ha, hb => by
    obtain ⟨h1, h2, h3⟩ := eA hb
    show b8 ((y :: gp n [] b).map (·.e)) key = _
    rw [List.map_cons, cD, gg n (by simp at h ⊢; omega) ha h3, List.map_cons, cD]
    split <;> rfl
  | n + 1, x :: a, y :: b, h, ha, hb => by
    obtain ⟨h1, h2, h3⟩ := eA ha
    obtain ⟨k1, k2, k3⟩ := eA hb
    rw [gp, gY]
    split
    · rename_i hc
      show b8 ((x :: gp n a (y :: b)).map (·.e)) key = _
      rw [List.map_cons, cD, gg n (by simp at h ⊢; omega) h3 hb, List.map_cons (f := (·.e)) (a := x), cD]
      by_cases hk : a7 x.e.host = key
      · rw [if_pos hk, if_pos hk, ← hk, look_lt h1 hb (lt_all hc k2)]; rfl
      · rw [if_neg hk, if_neg hk]
    · split
      · rename_i hc
        have hc2 : bR y.e.host x.e.host < 0 := by rw [dM x.e.host]; omega
        show b8 ((y :: gp n (x :: a) b).map (·.e)) key = _
        rw [List.map_cons, cD, gg n (by simp at h ⊢; omega) ha k3, List.map_cons (f := (·.e)) (a := y), cD]
        split <;> rfl
      · rename_i c1 c2
        have hc : bR x.e.host y.e.host = 0 := by omega
        have hf := (ea h1 k1).1 hc
        show b8 ((y :: gp n a b).map (·.e)) key = _
        rw [List.map_cons, cD, gg n (by simp at h ⊢; omega) h3 k3, List.map_cons, cD, List.map_cons, cD, hf]
        split <;> rfl
theorem sorted_tbe {put ys : List Le} (hp : ys.Perm put) (hs : ys.Pairwise fun a b => ¬ bR b.e.host a.e.host < 0) (hck : ∀ x ∈ put, bd x.e.host = 0) (hnd : (put.map fun y : Le => a7 y.e.host).Nodup) : TbE (ys.map (·.e)) := ⟨fun e he => by
  obtain ⟨z, hz, rfl⟩ := List.mem_map.1 he
  exact hck z (hp.mem_iff.1 hz), by
  rw [List.pairwise_map]
  have hn := (hp.map fun y : Le => a7 y.e.host).nodup_iff.2 hnd
  rw [List.Nodup, List.pairwise_map] at hn
  rw [List.pairwise_iff_getElem] at hs hn ⊢
  intro i j hi hj hij
  have q1 := hs i j hi hj hij
  have q2 := hn i j hi hj hij
  have c1 := hck _ (hp.mem_iff.1 (List.getElem_mem hi))
  have c2 := hck _ (hp.mem_iff.1 (List.getElem_mem hj))
  have q3 : bR ys[i].e.host ys[j].e.host ≠ 0 := fun q => q2 ((ea c1 c2).1 q)
  have q4 := dM ys[i].e.host ys[j].e.host
  omega⟩
/-- The program's way: sorted, and gone through side by side. -/
theorem merge_put {m put ys : List Le} (tm : TbE (m.map (·.e))) (hp : ys.Perm put) (hs : ys.Pairwise fun a b => ¬ bR b.e.host a.e.host < 0) (hck : ∀ x ∈ put, bd x.e.host = 0) (hnd : (put.map fun y : Le => a7 y.e.host).Nodup) :
    ((dJ m ys 0 0).map fun q => outV (g9 m ys q)).map (·.e) = (dz m put).map (·.e) := by
  have ty := sorted_tbe hp hs hck hnd
  have e : ((dJ m ys 0 0).map fun q => outV (g9 m ys q)) = gp (m.length + ys.length) m ys := by
    rw [gp, ← List.drop_zero (l := m), ← List.drop_zero (l := ys), ← mrg_V m ys, List.map_map]; rfl
  rw [e]
  have hP : HostsOk (put.map (·.e)) := look_hosts ty.hosts fun e he => by
    obtain ⟨z, hz, rfl⟩ := List.mem_map.1 he
    exact List.mem_map.2 ⟨z, hp.mem_iff.2 hz, rfl⟩
  refine tbe_eq (gV _ tm ty) (putAll_tbe hck tm) fun key => ?_
  rw [gg _ (Nat.le_refl _) tm ty, iz hck hnd tm, look_perm hP (hp.map _)]
/-- What a pair tells to drop, to put. -/
def dropV : Option Le × Option Le → Option a6
  | (some x, none) => some x.e.host
  | _ => none
def putV : Option Le × Option Le → Option Le
  | (ox, some y) => if ox.map (·.e) = some y.e then none else some y
  | _ => none
theorem look_skip {y : Le} {b : List Le} {x : Le} (hx : bd x.e.host = 0) (hy : bd y.e.host = 0) (h : bR y.e.host x.e.host < 0) : b8 ((y :: b).map (·.e)) (a7 x.e.host) = b8 (b.map (·.e)) (a7 x.e.host) := by
  rw [List.map_cons, cD, if_neg (cmpN_ne hy hx h)]
theorem dd_skip {a b : List Le} {y : Le} (ha : TbE (a.map (·.e))) (hy : bd y.e.host = 0) (h : ∀ x ∈ a, bR y.e.host x.e.host < 0) : dd a (y :: b) = dd a b := by
  rw [dd, dd]
  congr 1
  exact List.filter_congr fun x hx => by rw [look_skip (ha.ck _ (List.mem_map.2 ⟨x, hx, rfl⟩)) hy (h x hx)]
theorem dp_skip {a b : List Le} {x : Le} (hb : TbE (b.map (·.e))) (hx : bd x.e.host = 0) (h : ∀ y ∈ b, bR x.e.host y.e.host < 0) : dx (x :: a) b = dx a b := by
  rw [dx, dx]
  exact List.filter_congr fun y hy => by rw [look_skip (hb.ck _ (List.mem_map.2 ⟨y, hy, rfl⟩)) hx (h y hy)]
theorem dd_cons (x : Le) (a b : List Le) : dd (x :: a) b = (if (b8 (b.map (·.e)) (a7 x.e.host)).isSome = true then [] else [x.e.host]) ++ dd a b := by
  rw [dd, List.filter_cons]
  cases (b8 (b.map (·.e)) (a7 x.e.host)).isSome <;> rfl
theorem dp_cons (a : List Le) (y : Le) (b : List Le) : dx a (y :: b) = (if b8 (a.map (·.e)) (a7 y.e.host) = some y.e then [] else [y]) ++ dx a b := by
  rw [dx, List.filter_cons]
  by_cases h : b8 (a.map (·.e)) (a7 y.e.host) = some y.e
  · rw [if_pos h, decide_eq_false (fun q => q h)]; rfl
  · rw [if_neg h, decide_eq_true h]; rfl
theorem ga : ∀ (n : Nat) {a b : List Le}, a.length + b.length ≤ n → TbE (a.map (·.e)) → TbE (b.map (·.e)) → (gY n a b).filterMap dropV = dd a b ∧ (gY n a b).filterMap putV = dx a b
  | 0, a, b, h, _, _ => by
    have h1 : a = [] := List.length_eq_zero_iff.1 (by omega)
    have h2 : b = [] := List.length_eq_zero_iff.1 (by omega)
    subst h1 h2; exact ⟨rfl, rfl⟩
  | n + 1, [], [], _, _, _ => ⟨rfl, rfl⟩
  | n + 1, x :: a, [], h, ha, hb => by
    obtain ⟨h1, h2, h3⟩ := eA ha
    obtain ⟨i1, i2⟩ := ga n (a := a) (b := []) (by simp at h ⊢; omega) h3 hb
    rw [gY, List.filterMap_cons, List.filterMap_cons, i1, i2, dd_cons]
    exact ⟨rfl, rfl⟩
  | n + 1, [], y :: b, h, ha, hb => by
    obtain ⟨h1, h2, h3⟩ := eA hb
    obtain ⟨i1, i2⟩ := ga n (a := []) (b := b) (by simp at h ⊢; omega) ha h3
    rw [gY, List.filterMap_cons, List.filterMap_cons, i1, i2, dp_cons]
    exact ⟨rfl, rfl⟩
  | n + 1, x :: a, y :: b, h, ha, hb => by
    obtain ⟨h1, h2, h3⟩ := eA ha
    obtain ⟨k1, k2, k3⟩ := eA hb
    rw [gY]
    split
    · rename_i hc
      obtain ⟨i1, i2⟩ := ga n (a := a) (b := y :: b) (by simp at h ⊢; omega) h3 hb
      rw [List.filterMap_cons, List.filterMap_cons, i1, i2, dd_cons, look_lt h1 hb (lt_all hc k2), dp_skip hb h1 (lt_all hc k2)]
      exact ⟨rfl, rfl⟩
    · split
      · rename_i hc
        have hc2 : bR y.e.host x.e.host < 0 := by rw [dM x.e.host]; omega
        obtain ⟨i1, i2⟩ := ga n (a := x :: a) (b := b) (by simp at h ⊢; omega) ha k3
        rw [List.filterMap_cons, List.filterMap_cons, i1, i2, dp_cons, look_lt k1 ha (lt_all hc2 h2), dd_skip ha k1 (lt_all hc2 h2)]
        exact ⟨rfl, rfl⟩
      · rename_i c1 c2
        have hc : bR x.e.host y.e.host = 0 := by omega
        have hf := (ea h1 k1).1 hc
        obtain ⟨i1, i2⟩ := ga n (a := a) (b := b) (by simp at h ⊢; omega) h3 k3
        have l1 : b8 ((y :: b).map (·.e)) (a7 x.e.host) = some y.e := by rw [List.map_cons, cD, if_pos hf.symm]
        have l2 : b8 ((x :: a).map (·.e)) (a7 y.e.host) = some x.e := by rw [List.map_cons, cD, if_pos hf]
        have s1 : dd a (y :: b) = dd a b := dd_skip h3 k1 fun z hz => by rw [gh k1 h1 hf.symm]; exact h2 z hz
        have s2 : dx (x :: a) b = dx a b := dp_skip k3 h1 fun z hz => by rw [gh h1 k1 hf]; exact k2 z hz
        rw [List.filterMap_cons, List.filterMap_cons, i1, i2, dd_cons, l1, s1, dp_cons, l2, s2]
        refine ⟨rfl, ?_⟩
        by_cases he : x.e = y.e
        · rw [if_pos (by rw [he]), show putV (some x, some y) = none from if_pos (congrArg some he)]; rfl
        · have he2 : ¬ some x.e = some y.e := fun q => he (Option.some.inj q)
          rw [if_neg he2, show putV (some x, some y) = some y from if_neg he2]; rfl
theorem merge_diff {l k : List Le} (tl : TbE (l.map (·.e))) (tk : TbE (k.map (·.e))) : ((dJ l k 0 0).map (g9 l k)).filterMap dropV = dd l k ∧ ((dJ l k 0 0).map (g9 l k)).filterMap putV = dx l k := by
  have e : (dJ l k 0 0).map (g9 l k) = gY (l.length + k.length) l k := by
    have := mrg_V l k (l.length + k.length) 0 0
    simpa [dJ] using this
  rw [e]
  exact ga _ (Nat.le_refl _) tl tk

end Go.Proofs.YtnpdgmoeoidppaaGreat
