import Derived.Test.YtnpdgmoeoidppaaLsQb
import Derived.Test.YtnpdgmoeoidppaaLuQb
/- tables in plain words: what a push makes, what is told apart -/
namespace Go.Proofs.Ytnpdgmoeoidppaa
open Go.RowKit Go.Shelf
set_option linter.unusedVariables false
set_option linter.unusedSimpArgs false

theorem find_perm17 {α : Type} {l l' : List α} (hp : l'.Perm l) {F : α → Bool} (hu : ∀ a ∈ l, ∀ b ∈ l, F a = true → F b = true → a = b) : l'.find? F = l.find? F := by
  cases h1 : l.find? F with
  | none =>
    rw [List.find?_eq_none] at h1 ⊢
    exact fun a ha => h1 a (hp.mem_iff.1 ha)
  | some a =>
    have ha := List.mem_of_find?_eq_some h1
    have hF := List.find?_some h1
    cases h2 : l'.find? F with
    | none => exact absurd hF (List.find?_eq_none.1 h2 a (hp.mem_iff.2 ha))
    | some b => rw [hu a ha b (hp.mem_iff.1 (List.mem_of_find?_eq_some h2)) hF (List.find?_some h2)]
theorem up_eqR {α : Type} {R : α → α → Prop} (irr : ∀ a, ¬ R a a) (tr : ∀ a b c, R a b → R b c → R a c) : ∀ {xs ys : List α}, xs.Pairwise R → ys.Pairwise R → (∀ r, r ∈ xs ↔ r ∈ ys) → xs = ys
  | [], [], _, _, _ => rfl
  | [], y :: ys, _, _, h => absurd ((h y).2 (.head _)) nofun
  | x :: xs, [], _, _, h => absurd ((h x).1 (.head _)) nofun
  | x :: xs, y :: ys, h1, h2, h => by
    rw [List.pairwise_cons] at h1 h2
    have e : x = y := by
      rcases List.mem_cons.1 ((h x).1 (.head _)) with e | hx
      · exact e
      · rcases List.mem_cons.1 ((h y).2 (.head _)) with e | hy
        · exact e.symm
        · exact absurd (tr _ _ _ (h1.1 y hy) (h2.1 x hx)) (irr x)
    subst e
    have ht : ∀ r, r ∈ xs ↔ r ∈ ys := fun r => by
      constructor
      · intro hr
        rcases List.mem_cons.1 ((h r).1 (.tail _ hr)) with e | hy
        · exact absurd (e ▸ h1.1 r hr) (irr x)
        · exact hy
      · intro hr
        rcases List.mem_cons.1 ((h r).2 (.tail _ hr)) with e | hy
        · exact absurd (e ▸ h2.1 r hr) (irr x)
        · exact hy
    rw [up_eqR irr tr h1.2 h2.2 ht]
theorem f8 : ∀ s t : List bg, dM s t = dM (s.map cN) (t.map cN)
  | [], [] => rfl
  | [], _ :: _ => rfl
  | _ :: _, [] => rfl
  | a :: s, b :: t => by
    simp only [List.map_cons, dM, lowS_idem]
    rw [f8 s t]
theorem fE {a a' : bg} (ha : bj a = 0) (ha' : bj a' = 0) (h : bh a = bh a') (b : bg) : cn a b = cn a' b := by
  rw [cn, cn, f8, f8 (bP a').reverse, List.map_reverse, List.map_reverse, (fold_labs ha ha').1 h, ← List.map_reverse]
theorem cmpN_self (a : bg) : cn a a = 0 := by have := dE a a; omega
theorem cmpN_ne {a b : bg} (ha : bj a = 0) (hb : bj b = 0) (h : cn a b < 0) : bh a ≠ bh b := fun e => by
  rw [(dJ ha hb).2 e] at h; omega
/-- Entries in a table's order, of hosts that may be. -/
structure TbE (es : List En) : Prop where
  ck : ∀ e ∈ es, bj e.host = 0
  up : es.Pairwise fun a b => cn a.host b.host < 0
theorem g9 : TbE [] := ⟨nofun, .nil⟩
theorem TbE.sub {es fs : List En} (h : TbE es) (hs : fs.Sublist es) : TbE fs := ⟨fun e he => h.ck e (hs.subset he), h.up.sublist hs⟩
theorem TbE.keys {es : List En} (h : TbE es) : (es.map fun e => bh e.host).Nodup := by
  rw [List.Nodup, List.pairwise_map]
  have := h.up
  rw [List.pairwise_iff_getElem] at this ⊢
  exact fun i j hi hj hij => cmpN_ne (h.ck _ (List.getElem_mem hi)) (h.ck _ (List.getElem_mem hj)) (this i j hi hj hij)
theorem TbE.hosts {es : List En} (h : TbE es) : HostsOk es := ⟨h.ck, fun e he f hf hef => by
  obtain ⟨i, hi, rfl⟩ := List.mem_iff_getElem.1 he
  obtain ⟨j, hj, rfl⟩ := List.mem_iff_getElem.1 hf
  have hp := List.pairwise_iff_getElem.1 h.keys
  rcases Nat.lt_trichotomy i j with q | q | q
  · exact absurd (by rw [List.getElem_map, List.getElem_map]; exact hef) (hp i j (by simpa using hi) (by simpa using hj) q)
  · subst q; rfl
  · exact absurd (by rw [List.getElem_map, List.getElem_map]; exact hef.symm) (hp j i (by simpa using hj) (by simpa using hi) q)⟩
theorem tbe_eq {es fs : List En} (h : TbE es) (k : TbE fs) (hl : ∀ key, bQ es key = bQ fs key) : es = fs :=
  up_eqR (R := fun a b : En => cn a.host b.host < 0) (fun a q => by have := cmpN_self a.host; omega) (fun a b c q1 q2 => dQ q1 q2) h.up k.up fun r => by
    constructor
    · intro hr; have := eW h.hosts hr; rw [hl] at this; exact (gY this).1
    · intro hr; have := eW k.hosts hr; rw [← hl] at this; exact (gY this).1
theorem fq {v : Int} {l : List Le} (h : bX v l = 0) : TbE (l.map (·.e)) := ⟨(tab_hosts h).ck, by
  rw [List.pairwise_iff_getElem]
  intro i j hi hj hij
  obtain ⟨d, rfl⟩ : ∃ d, j = i + d + 1 := ⟨j - i - 1, by omega⟩
  have h3 := rises_far (ee h).2.1 i d (by simpa using hj)
  rw [List.getElem_map, List.getElem_map]
  have g : ∀ k (hk : k < l.length), hst l k = (l[k]).e.host := fun k hk => by rw [hst, List.getD_eq_getElem?_getD, List.getElem?_eq_getElem hk]; rfl
  rw [g _ (by simpa using hi), g _ (by simpa using hj)] at h3
  exact h3⟩
theorem tbe_tab {v : Int} {l : List Le} (h : TbE (l.map (·.e))) (h1 : ∀ x ∈ l, dv x.e = 0) (h2 : l.length ≤ 256) (h3 : 0 ≤ v) (h4 : v ≤ 2147483647) : bX v l = 0 := by
  have hr : gM l := fun i h0 hi => by
    have := List.pairwise_iff_getElem.1 h.up (i - 1) i (by rw [List.length_map]; omega) (by simpa using hi) (by omega)
    rw [List.getElem_map, List.getElem_map] at this
    rw [dE (l.getD (i - 1) bO).e.host, List.getD_eq_getElem?_getD, List.getD_eq_getElem?_getD, List.getElem?_eq_getElem hi, List.getElem?_eq_getElem (show i - 1 < l.length by omega)]
    show 0 < - cn (l[i - 1]).e.host (l[i]).e.host
    omega
  rw [bX, if_neg (by omega), if_neg (fun q => q (entsCk_zero.2 h1)), if_neg (fun q => q.elim (fun q => q hr) (fun q => by omega))]
theorem look_nil (key : bg) : bQ [] key = none := rfl
theorem cC (e : En) (r : List En) (key : bg) : bQ (e :: r) key = if bh e.host = key then some e else bQ r key := by
  rw [bQ, List.find?_cons]
  by_cases h : bh e.host = key
  · rw [decide_eq_true h, if_pos h]
  · rw [decide_eq_false h, if_neg h]; rfl
theorem iO (a b : List En) (key : bg) : bQ (a ++ b) key = (bQ a key).or (bQ b key) := by rw [bQ, List.find?_append]; rfl
theorem look_none {es : List En} {key : bg} : bQ es key = none ↔ ∀ e ∈ es, bh e.host ≠ key := by
  rw [bQ, List.find?_eq_none]; simp
theorem look_isSome {es : List En} {key : bg} : (bQ es key).isSome = true ↔ key ∈ es.map fun e => bh e.host := by
  constructor
  · intro h
    cases hl : bQ es key with
    | none => rw [hl] at h; cases h
    | some e => obtain ⟨h1, h2⟩ := gY hl; exact List.mem_map.2 ⟨e, h1, h2⟩
  · intro h
    obtain ⟨e, he, rfl⟩ := List.mem_map.1 h
    cases hl : bQ es (bh e.host) with
    | none => exact absurd rfl (look_none.1 hl e he)
    | some f => rfl
theorem look_filter {es : List En} {p : bg → Bool} {key : bg} : bQ (es.filter fun e => p (bh e.host)) key = if p key = true then bQ es key else none := by
  induction es with
  | nil => simp [look_nil]
  | cons e r ih =>
    rw [List.filter_cons]
    by_cases hp : p (bh e.host) = true
    · rw [if_pos hp, cC, cC, ih]
      by_cases h : bh e.host = key
      · rw [if_pos h, if_pos h, if_pos (by rw [← h]; exact hp)]
      · rw [if_neg h, if_neg h]
    · rw [if_neg hp, ih, cC]
      by_cases h : bh e.host = key
      · rw [if_neg (by rw [← h]; exact hp), if_neg (by rw [← h]; exact hp)]
      · rw [if_neg h]
theorem putG_sub (x : Le) : ∀ (l : List Le), (f9 x true l).Sublist l
  | [] => by rw [f9]; exact .slnil
  | y :: r => by
    rw [f9]
    have ih := putG_sub x r
    show ([] ++ (if cn x.e.host y.e.host ≠ 0 then [y] else []) ++ f9 x true r).Sublist _
    split
    · exact .cons_cons _ ih
    · exact .cons _ ih
section
variable {x : Le} (hx : bj x.e.host = 0)
include hx
theorem look_putG {key : bg} : ∀ (l : List Le) (d : Bool), (∀ y ∈ l, bj y.e.host = 0) → bQ ((f9 x d l).map (·.e)) key = if bh x.e.host = key then (if d = true then none else some x.e) else bQ (l.map (·.e)) key
  | [], d, _ => by
    cases d
    · show bQ [x.e] key = if bh x.e.host = key then some x.e else bQ [] key
      exact cC _ _ _
    · show none = if bh x.e.host = key then none else none
      split <;> rfl
  | y :: r, d, hl => by
    have ih := fun d => look_putG (key := key) r d (fun z hz => hl z (.tail _ hz))
    have hy : bj y.e.host = 0 := hl y (.head _)
    rw [f9, List.map_append, List.map_append, iO, iO, ih, List.map_cons, cC]
    by_cases hk : bh x.e.host = key
    · rw [if_pos hk, if_pos hk]
      have h2 : bQ ((if cn x.e.host y.e.host ≠ 0 then [y] else []).map (·.e)) key = none := by
        split
        · rename_i h; exact (cC _ _ _).trans (if_neg (fun q => h ((dJ hx hy).2 (hk.trans q.symm))))
        · rfl
      rw [h2]
      cases d
      · by_cases hc : cn x.e.host y.e.host ≤ 0
        · rw [decide_eq_true hc]
          show ((bQ [x.e] key).or none).or _ = _
          rw [cC, if_pos hk]; rfl
        · rw [decide_eq_false hc]; rfl
      · show (none.or none).or _ = _
        simp
    · rw [if_neg hk, if_neg hk]
      have h1 : bQ ((if (!d && decide (cn x.e.host y.e.host ≤ 0)) = true then [x] else []).map (·.e)) key = none := by
        split
        · exact (cC _ _ _).trans (if_neg hk)
        · rfl
      rw [h1, Option.none_or]
      by_cases hc : cn x.e.host y.e.host ≠ 0
      · rw [if_pos hc]
        show (bQ [y.e] key).or _ = _
        rw [cC]
        split <;> rfl
      · rw [if_neg hc, if_neg (fun q => hk (((dJ hx hy).1 (Decidable.not_not.1 hc)).trans q))]; rfl
theorem putG_up : ∀ (l : List Le), TbE (l.map (·.e)) → ((f9 x false l).map (·.e)).Pairwise fun a b => cn a.host b.host < 0
  | [], _ => by rw [f9]; exact List.pairwise_singleton _ _
  | y :: r, h => by
    have hy : bj y.e.host = 0 := h.ck _ (.head _)
    obtain ⟨h1, h2⟩ := List.pairwise_cons.1 h.up
    have hr : TbE (r.map (·.e)) := ⟨fun e he => h.ck e (.tail _ he), h2⟩
    rw [f9]
    by_cases hc : cn x.e.host y.e.host ≤ 0
    · rw [decide_eq_true hc]
      have hsub := (putG_sub x r).map (·.e)
      have hrest : (((if cn x.e.host y.e.host ≠ 0 then [y] else []) ++ f9 x true r).map (·.e)).Sublist ((y :: r).map (·.e)) := by
        split
        · exact .cons_cons _ hsub
        · exact .cons _ hsub
      show (([x] ++ (if cn x.e.host y.e.host ≠ 0 then [y] else []) ++ f9 x (false || true) r).map (·.e)).Pairwise _
      rw [List.append_assoc]
      refine List.pairwise_cons.2 ⟨fun z hz => ?_, h.up.sublist hrest⟩
      by_cases h0 : cn x.e.host y.e.host = 0
      · have hz2 : z ∈ r.map (·.e) := by
          rw [if_neg (fun q => q h0)] at hz
          exact hsub.subset hz
        have := h1 z hz2
        rw [fE hx hy ((dJ hx hy).1 h0)]; exact this
      · rcases List.mem_cons.1 (hrest.subset hz) with rfl | hz2
        · exact (by omega : cn x.e.host y.e.host < 0)
        · exact dQ (by omega : cn x.e.host y.e.host < 0) (h1 z hz2)
    · have h9 : cn x.e.host y.e.host ≠ 0 := by omega
      rw [decide_eq_false hc, if_pos h9]
      show ((y :: f9 x false r).map (·.e)).Pairwise _
      refine List.pairwise_cons.2 ⟨fun z hz => ?_, putG_up r hr⟩
      obtain ⟨q, hq, rfl⟩ := List.mem_map.1 hz
      rcases jc hq with rfl | hq
      · have := dE q.e.host y.e.host; show cn y.e.host q.e.host < 0; omega
      · exact h1 _ (List.mem_map.2 ⟨q, hq, rfl⟩)
theorem putE_tbe {l : List Le} (h : TbE (l.map (·.e))) : TbE ((putE l x).map (·.e)) := ⟨fun e he => by
  obtain ⟨q, hq, rfl⟩ := List.mem_map.1 he
  rcases jc hq with rfl | hq
  · exact hx
  · exact h.ck _ (List.mem_map.2 ⟨q, hq, rfl⟩), putG_up hx l h⟩
theorem putE_look {l : List Le} (h : TbE (l.map (·.e))) (key : bg) : bQ ((putE l x).map (·.e)) key = if bh x.e.host = key then some x.e else bQ (l.map (·.e)) key := by
  rw [putE, look_putG hx l false (fun y hy => h.ck _ (List.mem_map.2 ⟨y, hy, rfl⟩))]; simp
end
theorem eV : ∀ {p l : List Le}, (∀ x ∈ p, bj x.e.host = 0) → TbE (l.map (·.e)) → TbE ((de l p).map (·.e))
  | [], _, _, h => h
  | x :: p, l, hp, h => eV (p := p) (fun y hy => hp y (.tail _ hy)) (putE_tbe (hp x (.head _)) h)
theorem ec {key : bg} : ∀ {p l : List Le}, (∀ x ∈ p, bj x.e.host = 0) → (p.map fun y : Le => bh y.e.host).Nodup → TbE (l.map (·.e)) → bQ ((de l p).map (·.e)) key = (bQ (p.map (·.e)) key).or (bQ (l.map (·.e)) key)
  | [], _, _, _, _ => rfl
  | x :: p, l, hp, hn, h => by
    rw [List.map_cons, List.nodup_cons] at hn
    show bQ ((de (putE l x) p).map (·.e)) key = _
    rw [ec (fun y hy => hp y (.tail _ hy)) hn.2 (putE_tbe (hp x (.head _)) h), putE_look (hp x (.head _)) h, List.map_cons, cC]
    by_cases hk : bh x.e.host = key
    · have : bQ (p.map (·.e)) key = none := look_none.2 fun e he q => by
        obtain ⟨y, hy, rfl⟩ := List.mem_map.1 he
        exact hn.1 (List.mem_map.2 ⟨y, hy, q.trans hk.symm⟩)
      rw [this, if_pos hk, if_pos hk]; rfl
    · rw [if_neg hk, if_neg hk]
/-- What is left when some hosts are dropped; none: one of them isn't there. -/
def cv : List Le → List bg → Option (List Le)
  | l, [] => some l
  | l, n :: r => if (bQ (l.map (·.e)) (bh n)).isSome = true then cv (l.filter fun y => decide (bh y.e.host ≠ bh n)) r else none
theorem fo (l : List Le) (p : bg → Bool) : (l.filter fun y => p (bh y.e.host)).map (·.e) = (l.map (·.e)).filter fun e => p (bh e.host) := by
  rw [List.filter_map]; rfl
theorem gG {key : bg} : ∀ {ds : List bg} {l r : List Le}, cv l ds = some r → bQ (r.map (·.e)) key = if key ∈ ds.map bh then none else bQ (l.map (·.e)) key
  | [], l, r, h => by rw [cv] at h; cases h; simp
  | n :: ds, l, r, h => by
    rw [cv] at h
    split at h
    · rw [gG h, fo l (fun s => decide (s ≠ bh n)), look_filter (p := fun s => decide (s ≠ bh n)), List.map_cons]
      by_cases hk : key ∈ ds.map bh
      · rw [if_pos hk, if_pos (.tail _ hk)]
      · rw [if_neg hk]
        by_cases hn : key = bh n
        · rw [if_neg (by simp [hn]), if_pos (by rw [hn]; exact .head _)]
        · rw [if_pos (by simpa using hn), if_neg (fun q => (List.mem_cons.1 q).elim hn hk)]
    · cases h
theorem fS : ∀ {ds : List bg} {l r : List Le}, cv l ds = some r → r.Sublist l
  | [], l, r, h => by rw [cv] at h; cases h; exact .refl _
  | n :: ds, l, r, h => by
    rw [cv] at h
    split at h
    · exact (fS h).trans List.filter_sublist
    · cases h
theorem dropAll_e : ∀ {ds : List bg} {l l' : List Le}, l.map (·.e) = l'.map (·.e) → (cv l ds).map (·.map (·.e)) = (cv l' ds).map (·.map (·.e))
  | [], l, l', h => by rw [cv, cv]; exact congrArg some h
  | n :: ds, l, l', h => by
    rw [cv, cv, h]
    split
    · exact dropAll_e (by rw [fo l (fun s => decide (s ≠ bh n)), fo l' (fun s => decide (s ≠ bh n)), h])
    · rfl
/-- All of them are there, each once: none is missed. -/
theorem iQ : ∀ {ds : List bg} {l : List Le}, (ds.map bh).Nodup → (∀ n ∈ ds, (bQ (l.map (·.e)) (bh n)).isSome = true) → ∃ r, cv l ds = some r
  | [], l, _, _ => ⟨l, rfl⟩
  | n :: ds, l, hn, h => by
    rw [List.map_cons, List.nodup_cons] at hn
    rw [cv, if_pos (h n (.head _))]
    refine iQ hn.2 fun m hm => ?_
    rw [fo l (fun s => decide (s ≠ bh n)), look_filter (p := fun s => decide (s ≠ bh n)), if_pos ?_]
    · exact h m (.tail _ hm)
    · exact decide_eq_true fun q => hn.1 (List.mem_map.2 ⟨m, hm, q⟩)
def dW (v : Int) (full : Bool) (bs ver : Int) (nd : Nat) : Int := if ver ≤ v ∨ 2147483647 < ver then 9 else if full = true then (if bs ≠ 0 ∨ 0 < nd then 2 else 0) else if bs ≠ v then 9 else 0
def eE : List bg → Int
  | [] => 0
  | n :: r => if bj n ≠ 0 then bj n else eE r
theorem iS : ∀ {l : List bg}, eE l = 0 ↔ ∀ n ∈ l, bj n = 0
  | [] => by simp [eE]
  | d :: r => by
    rw [eE]
    by_cases h : bj d ≠ 0
    · rw [if_pos h]; simp [h]
    · rw [if_neg h, iS]
      have : bj d = 0 := by omega
      simp [this]
/-- The hosts that a push names. -/
def dK (put : List Le) (drop : List bg) : List bg := (put.map fun y : Le => bh y.e.host) ++ drop.map bh
def cM (put : List Le) (drop : List bg) : Int := if dC put ≠ 0 then dC put else if eE drop ≠ 0 then eE drop else if (dK put drop).Nodup then 0 else 6
/-- A table behind a push: the error, the entries. -/
def bM (v : Int) (l : List Le) (full : Bool) (bs ver : Int) (put : List Le) (drop : List bg) : Int × List Le :=
  if bX v l ≠ 0 then (bX v l, []) else if dW v full bs ver drop.length ≠ 0 then (dW v full bs ver drop.length, []) else if cM put drop ≠ 0 then (cM put drop, []) else
  match cv (if full = true then [] else l) drop with
  | none => (5, [])
  | some r => if 256 < (de r put).length then (3, []) else (0, de r put)
structure ApplyOk (v : Int) (l : List Le) (full : Bool) (bs ver : Int) (put : List Le) (drop : List bg) (r : List Le) : Prop where
  tab : bX v l = 0
  ver1 : v < ver ∧ ver ≤ 2147483647
  full1 : full = true → bs = 0 ∧ drop = []
  base : full = false → bs = v
  ents : ∀ x ∈ put, dv x.e = 0
  names : ∀ n ∈ drop, bj n = 0
  dis : (dK put drop).Nodup
  mid : ∃ m, cv (if full = true then [] else l) drop = some m ∧ r = de m put
  len : r.length ≤ 256
theorem form_zero {v : Int} {full : Bool} {bs ver : Int} {drop : List bg} : dW v full bs ver drop.length = 0 ↔ (v < ver ∧ ver ≤ 2147483647) ∧ (full = true → bs = 0 ∧ drop = []) ∧ (full = false → bs = v) := by
  unfold dW
  cases full
  · simp only [Bool.false_eq_true, if_false, false_imp_iff, true_imp_iff, true_and]
    constructor
    · intro h
      split at h
      · omega
      · split at h
        · omega
        · exact ⟨by omega, by omega⟩
    · rintro ⟨h1, h2⟩
      rw [if_neg (by omega), if_neg (fun q => q h2)]
  · simp only [if_true, true_imp_iff, Bool.true_eq_false, false_imp_iff, and_true]
    constructor
    · intro h
      split at h
      · omega
      · split at h
        · omega
        · rename_i h1 h2
          refine ⟨by omega, by omega, ?_⟩
          cases drop with
          | nil => rfl
          | cons a r => exact absurd (.inr (Nat.succ_pos _)) h2
    · rintro ⟨h1, h2, h3⟩
      subst h3
      rw [if_neg (by omega), if_neg (fun q => q.elim (fun q => q h2) (fun q => absurd q (Nat.lt_irrefl 0)))]
theorem parts_zero {put : List Le} {drop : List bg} : cM put drop = 0 ↔ (∀ x ∈ put, dv x.e = 0) ∧ (∀ n ∈ drop, bj n = 0) ∧ (dK put drop).Nodup := by
  rw [← entsCk_zero, ← iS]
  unfold cM
  constructor
  · intro h
    split at h
    · omega
    · split at h
      · omega
      · split at h
        · rename_i h1 h2 h3; exact ⟨by omega, by omega, h3⟩
        · omega
  · rintro ⟨h1, h2, h3⟩
    rw [if_neg (fun q => q h1), if_neg (fun q => q h2), if_pos h3]
theorem apply_ok {v : Int} {l : List Le} {full : Bool} {bs ver : Int} {put : List Le} {drop : List bg} {r : List Le} : bM v l full bs ver put drop = (0, r) ↔ ApplyOk v l full bs ver put drop r := by
  constructor
  · intro h
    unfold bM at h
    split at h
    · have := congrArg Prod.fst h; simp only at this; omega
    · split at h
      · have := congrArg Prod.fst h; simp only at this; omega
      · split at h
        · have := congrArg Prod.fst h; simp only at this; omega
        · split at h
          · have := congrArg Prod.fst h; simp only at this; omega
          · split at h
            · have := congrArg Prod.fst h; simp only at this; omega
            · rename_i h1 h2 h3 x m hm h5
              have e : de m put = r := congrArg Prod.snd h
              obtain ⟨f1, f2, f3⟩ := form_zero.1 (Decidable.not_not.1 h2)
              obtain ⟨p1, p2, p3⟩ := parts_zero.1 (Decidable.not_not.1 h3)
              exact ⟨Decidable.not_not.1 h1, f1, f2, f3, p1, p2, p3, ⟨m, hm, e.symm⟩, by rw [← e]; omega⟩
  · intro h
    obtain ⟨m, hm, rfl⟩ := h.mid
    have hlen := h.len
    rw [bM, if_neg (fun q => q h.tab), if_neg (fun q => q (form_zero.2 ⟨h.ver1, h.full1, h.base⟩)), if_neg (fun q => q (parts_zero.2 ⟨h.ents, h.names, h.dis⟩)), hm]
    show (if 256 < (de m put).length then _ else _) = _
    rw [if_neg (by omega)]
theorem ApplyOk.mid_tbe {v : Int} {l : List Le} {full : Bool} {bs ver : Int} {put : List Le} {drop : List bg} {r m : List Le} (h : ApplyOk v l full bs ver put drop r) (hm : cv (if full = true then [] else l) drop = some m) : TbE (m.map (·.e)) := by
  refine TbE.sub ?_ ((fS hm).map (·.e))
  cases full
  · exact fq h.tab
  · exact g9
theorem ApplyOk.hck {v : Int} {l : List Le} {full : Bool} {bs ver : Int} {put : List Le} {drop : List bg} {r : List Le} (h : ApplyOk v l full bs ver put drop r) : ∀ x ∈ put, bj x.e.host = 0 := fun x hx => iM (h.ents x hx)
theorem ApplyOk.pnd {v : Int} {l : List Le} {full : Bool} {bs ver : Int} {put : List Le} {drop : List bg} {r : List Le} (h : ApplyOk v l full bs ver put drop r) : (put.map fun y : Le => bh y.e.host).Nodup := (List.nodup_append.1 h.dis).1
theorem ApplyOk.tbe {v : Int} {l : List Le} {full : Bool} {bs ver : Int} {put : List Le} {drop : List bg} {r : List Le} (h : ApplyOk v l full bs ver put drop r) : TbE (r.map (·.e)) := by
  obtain ⟨m, hm, rfl⟩ := h.mid
  exact eV h.hck (h.mid_tbe hm)
/-- What is behind a push: what was put; what was there and not dropped. -/
theorem ApplyOk.look {v : Int} {l : List Le} {full : Bool} {bs ver : Int} {put : List Le} {drop : List bg} {r : List Le} (h : ApplyOk v l full bs ver put drop r) (key : bg) :
    bQ (r.map (·.e)) key = (bQ (put.map (·.e)) key).or (if full = true then none else if key ∈ drop.map bh then none else bQ (l.map (·.e)) key) := by
  obtain ⟨m, hm, rfl⟩ := h.mid
  rw [ec h.hck h.pnd (h.mid_tbe hm), gG hm]
  cases full
  · rfl
  · show _ = (bQ _ key).or none
    congr 1
    show (if _ then none else none) = none
    split <;> rfl
theorem iU : ∀ {p l : List Le} {y : Le}, y ∈ de l p → y ∈ l ∨ y ∈ p
  | [], _, _, h => .inl h
  | x :: p, l, y, h => by
    rcases iU (p := p) h with h | h
    · rcases jc h with rfl | h
      · exact .inr (.head _)
      · exact .inl h
    · exact .inr (.tail _ h)
theorem ApplyOk.mem {v : Int} {l : List Le} {full : Bool} {bs ver : Int} {put : List Le} {drop : List bg} {r : List Le} (h : ApplyOk v l full bs ver put drop r) {y : Le} (hy : y ∈ r) : y ∈ l ∨ y ∈ put := by
  obtain ⟨m, hm, rfl⟩ := h.mid
  refine (iU hy).imp (fun q => ?_) id
  have := (fS hm).subset q
  cases full
  · exact this
  · cases this
theorem ApplyOk.tab2 {v : Int} {l : List Le} {full : Bool} {bs ver : Int} {put : List Le} {drop : List bg} {r : List Le} (h : ApplyOk v l full bs ver put drop r) : bX ver r = 0 :=
  tbe_tab h.tbe (fun x hx => (h.mem hx).elim ((ee h.tab).1 x) (h.ents x)) h.len (by have := (ee h.tab).2.2.2.1; have := h.ver1.1; omega) h.ver1.2

theorem putE_e17 (l : List Le) (x : Le) : (putE l x).map (·.e) = (putE ((l.map (·.e)).map fun e => ⟨e, none, 0, none, 0⟩) ⟨x.e, none, 0, none, 0⟩).map (·.e) := by
  have h : ∀ (l : List Le) (d : Bool), (f9 x d l).map (·.e) = (f9 ⟨x.e, none, 0, none, 0⟩ d ((l.map (·.e)).map fun e => ⟨e, none, 0, none, 0⟩)).map (·.e) := by
    intro l
    induction l with
    | nil => intro d; cases d <;> rfl
    | cons y r ih =>
      intro d
      simp only [List.map_cons, f9, List.map_append, ih]
      congr 1
      congr 1
      · split <;> rfl
      · split <;> rfl
  exact h l false
theorem ik : ∀ {p p' l l' : List Le}, p.map (·.e) = p'.map (·.e) → l.map (·.e) = l'.map (·.e) → (de l p).map (·.e) = (de l' p').map (·.e)
  | [], [], _, _, _, h => h
  | [], _ :: _, _, _, h, _ => by cases h
  | _ :: _, [], _, _, h, _ => by cases h
  | x :: p, x' :: p', l, l', hp, h => by
    rw [List.map_cons, List.map_cons, List.cons.injEq] at hp
    exact ik (p := p) (p' := p') hp.2 (by rw [putE_e17, putE_e17 l', h, hp.1])
theorem iu : ∀ {l l' : List Le}, l.map (·.e) = l'.map (·.e) → dC l = dC l'
  | [], [], _ => rfl
  | [], _ :: _, h => by cases h
  | _ :: _, [], h => by cases h
  | x :: r, y :: s, h => by
    rw [List.map_cons, List.map_cons, List.cons.injEq] at h
    rw [dC, dC, h.1, iu h.2]
theorem dq (l : List Le) (i : Nat) : (l.getD i bO).e = (l.map (·.e)).getD i en0 := by
  rw [List.getD_eq_getElem?_getD, List.getD_eq_getElem?_getD, List.getElem?_map]
  cases l[i]? <;> rfl
theorem tab_e17 (v : Int) {l l' : List Le} (h : l.map (·.e) = l'.map (·.e)) : bX v l = bX v l' := by
  have h1 : l.length = l'.length := by have := congrArg List.length h; simpa using this
  have h2 : gM l ↔ gM l' := by
    unfold gM
    rw [h1]
    simp only [dq, h]
  unfold bX
  rw [h1, iu h]
  simp only [h2]
/-- The same entries, the same push: the same table. -/
theorem apply_e {v : Int} {l l' : List Le} {full : Bool} {bs ver : Int} {put put' : List Le} {drop : List bg} (hl : l.map (·.e) = l'.map (·.e)) (hp : put.map (·.e) = put'.map (·.e)) :
    (bM v l full bs ver put drop).1 = (bM v l' full bs ver put' drop).1 ∧ (bM v l full bs ver put drop).2.map (·.e) = (bM v l' full bs ver put' drop).2.map (·.e) := by
  have h1 : cM put drop = cM put' drop := by
    have : (put.map fun y : Le => bh y.e.host) = put'.map fun y : Le => bh y.e.host := by
      have := congrArg (List.map fun e : En => bh e.host) hp
      simpa [List.map_map, Function.comp_def] using this
    rw [cM, cM, dK, dK, iu hp, this]
  have h2 : (cv (if full = true then [] else l) drop).map (·.map (·.e)) = (cv (if full = true then [] else l') drop).map (·.map (·.e)) := dropAll_e (by cases full; exact hl; rfl)
  unfold bM
  rw [tab_e17 v hl, h1]
  split
  · exact ⟨rfl, rfl⟩
  · split
    · exact ⟨rfl, rfl⟩
    · split
      · exact ⟨rfl, rfl⟩
      · cases hm : cv (if full = true then [] else l) drop with
        | none =>
          cases hm' : cv (if full = true then [] else l') drop with
          | none => exact ⟨rfl, rfl⟩
          | some m' => rw [hm, hm'] at h2; cases h2
        | some m =>
          cases hm' : cv (if full = true then [] else l') drop with
          | none => rw [hm, hm'] at h2; cases h2
          | some m' =>
            rw [hm, hm'] at h2
            have h3 : m.map (·.e) = m'.map (·.e) := Option.some.inj h2
            have h4 := ik hp h3
            have h5 : (de m put).length = (de m' put').length := by have := congrArg List.length h4; simpa using this
            show (if _ then _ else _ : Int × List Le).1 = (if _ then _ else _ : Int × List Le).1 ∧ (if _ then _ else _ : Int × List Le).2.map _ = (if _ then _ else _ : Int × List Le).2.map _
            rw [h5]
            split
            · exact ⟨rfl, rfl⟩
            · exact ⟨rfl, h4⟩
theorem look_perm {es fs : List En} (h : HostsOk es) (hp : fs.Perm es) (key : bg) : bQ fs key = bQ es key := find_perm17 hp fun a ha b hb h1 h2 => h.dis a ha b hb ((of_decide_eq_true h1).trans (of_decide_eq_true h2).symm)
theorem look_hosts {es fs : List En} (h : HostsOk es) (hs : ∀ e ∈ fs, e ∈ es) : HostsOk fs := ⟨fun e he => h.ck e (hs e he), fun e he f hf q => h.dis e (hs e he) f (hs f hf) q⟩
theorem nd_len17 {α : Type} [DecidableEq α] : ∀ {xs ys : List α}, xs.Nodup → (∀ a ∈ xs, a ∈ ys) → xs.length ≤ ys.length
  | [], _, _, _ => Nat.zero_le _
  | x :: xs, ys, hn, h => by
    rw [List.nodup_cons] at hn
    have h1 := nd_len17 (xs := xs) (ys := ys.erase x) hn.2 (fun a ha => (List.mem_erase_of_ne (fun e => hn.1 (by rw [← e]; exact ha))).2 (h a (.tail _ ha)))
    have h2 := List.length_erase_of_mem (h x (.head _))
    have h3 := List.length_pos_of_mem (h x (.head _))
    simp only [List.length_cons]; omega
theorem d7 {l k : List Le} (h : l.map (·.e) = k.map (·.e)) : l.length = k.length := by have := congrArg List.length h; simpa using this
/-- What is to be put, to make the other table; what is to be dropped. -/
def cZ (l k : List Le) : List Le := k.filter fun y => decide (bQ (l.map (·.e)) (bh y.e.host) ≠ some y.e)
def cJ (l k : List Le) : List bg := (l.filter fun x => !(bQ (k.map (·.e)) (bh x.e.host)).isSome).map (·.e.host)
theorem diff_ok {v u : Int} {l k : List Le} (h : bX v l = 0) (h2 : bX u k = 0) (hv : v < u) : ∃ r, ApplyOk v l false v u (cZ l k) (cJ l k) r ∧ r.map (·.e) = k.map (·.e) := by
  have tl := fq h
  have tk := fq h2
  have hsub : ((cZ l k).map (·.e)).Sublist (k.map (·.e)) := List.filter_sublist.map _
  have hpk : ∀ x ∈ cZ l k, x ∈ k := fun x hx => (List.mem_filter.1 hx).1
  have hd : ∀ n ∈ cJ l k, ∃ x ∈ l, x.e.host = n ∧ bQ (k.map (·.e)) (bh n) = none := fun n hn => by
    obtain ⟨x, hx, rfl⟩ := List.mem_map.1 hn
    obtain ⟨q1, q2⟩ := List.mem_filter.1 hx
    refine ⟨x, q1, rfl, ?_⟩
    cases hq : bQ (k.map (·.e)) (bh x.e.host) with
    | none => rfl
    | some e => rw [hq] at q2; cases q2
  have hdis : (dK (cZ l k) (cJ l k)).Nodup := by
    refine List.nodup_append.2 ⟨?_, ?_, fun a ha b hb e => ?_⟩
    · have := tk.keys.sublist (hsub.map fun e : En => bh e.host)
      simpa [List.map_map, Function.comp_def] using this
    · have h9 := tl.keys.sublist (((List.filter_sublist (l := l) (p := fun x => !(bQ (k.map (·.e)) (bh x.e.host)).isSome)).map (·.e)).map fun e : En => bh e.host)
      simpa [cJ, List.map_map, Function.comp_def] using h9
    · obtain ⟨y, hy, rfl⟩ := List.mem_map.1 ha
      obtain ⟨n, hn, rfl⟩ := List.mem_map.1 hb
      obtain ⟨x, _, _, q⟩ := hd n hn
      exact look_none.1 q y.e (List.mem_map.2 ⟨y, hpk y hy, rfl⟩) e
  have hnm : ∀ n ∈ cJ l k, bj n = 0 := fun n hn => by
    obtain ⟨x, hx, rfl, _⟩ := hd n hn
    exact tl.ck _ (List.mem_map.2 ⟨x, hx, rfl⟩)
  obtain ⟨m, hm⟩ := iQ (ds := cJ l k) (l := l) (List.nodup_append.1 hdis).2.1 (fun n hn => by
    obtain ⟨x, hx, rfl, _⟩ := hd n hn
    exact look_isSome.2 (List.mem_map.2 ⟨x.e, List.mem_map.2 ⟨x, hx, rfl⟩, rfl⟩))
  have hpc : ∀ x ∈ cZ l k, bj x.e.host = 0 := fun x hx => tk.ck _ (List.mem_map.2 ⟨x, hpk x hx, rfl⟩)
  have tm : TbE (m.map (·.e)) := tl.sub ((fS hm).map (·.e))
  have he : (de m (cZ l k)).map (·.e) = k.map (·.e) := by
    refine tbe_eq (eV hpc tm) tk fun key => ?_
    rw [ec hpc (List.nodup_append.1 hdis).1 tm, gG hm]
    have hP : HostsOk ((cZ l k).map (·.e)) := look_hosts tk.hosts fun e he => hsub.subset he
    cases hk : bQ (k.map (·.e)) key with
    | some e =>
      obtain ⟨he, rfl⟩ := gY hk
      by_cases hle : bQ (l.map (·.e)) (bh e.host) = some e
      · have hn : bQ ((cZ l k).map (·.e)) (bh e.host) = none := look_none.2 fun f hf q => by
          obtain ⟨y, hy, rfl⟩ := List.mem_map.1 hf
          have e2 : y.e = e := tk.hosts.dis _ (hsub.subset hf) _ he q
          have := (List.mem_filter.1 hy).2
          rw [e2] at this
          exact of_decide_eq_true this hle
        rw [hn, Option.none_or, if_neg, hle]
        rintro hq
        obtain ⟨n, hn2, q⟩ := List.mem_map.1 hq
        obtain ⟨x, _, _, q3⟩ := hd n hn2
        rw [q, hk] at q3; cases q3
      · obtain ⟨y, hy, rfl⟩ := List.mem_map.1 he
        have hyp : y ∈ cZ l k := List.mem_filter.2 ⟨hy, decide_eq_true hle⟩
        rw [eW hP (List.mem_map.2 ⟨y, hyp, rfl⟩)]; rfl
    | none =>
      have hn : bQ ((cZ l k).map (·.e)) key = none := look_none.2 fun f hf q => look_none.1 hk f (hsub.subset hf) q
      rw [hn, Option.none_or]
      cases hl : bQ (l.map (·.e)) key with
      | none => split <;> rfl
      | some e =>
        obtain ⟨he, rfl⟩ := gY hl
        obtain ⟨x, hx, rfl⟩ := List.mem_map.1 he
        have hin : bh x.e.host ∈ (cJ l k).map bh := List.mem_map.2 ⟨x.e.host, List.mem_map.2 ⟨x, List.mem_filter.2 ⟨hx, by rw [hk]; rfl⟩, rfl⟩, rfl⟩
        rw [if_pos hin]
  exact ⟨_, ⟨h, ⟨hv, (ee h2).2.2.2.2⟩, nofun, fun _ => rfl, fun x hx => (ee h2).1 x (hpk x hx), hnm, hdis, ⟨m, hm, rfl⟩, by rw [d7 he]; exact (ee h2).2.2.1⟩, he⟩
theorem diff_self {v : Int} {l : List Le} (h : bX v l = 0) : cZ l l = [] ∧ cJ l l = [] := by
  have tl := fq h
  constructor
  · refine List.filter_eq_nil_iff.2 fun y hy q => ?_
    exact of_decide_eq_true q (eW tl.hosts (List.mem_map.2 ⟨y, hy, rfl⟩))
  · rw [cJ, List.filter_eq_nil_iff.2, List.map_nil]
    intro y hy q
    rw [eW tl.hosts (List.mem_map.2 ⟨y, hy, rfl⟩)] at q; cases q
theorem diffPut_len (l k : List Le) : (cZ l k).length ≤ k.length := List.length_filter_le _ _
theorem diffDrop_len (l k : List Le) : (cJ l k).length ≤ l.length := by rw [cJ, List.length_map]; exact List.length_filter_le _ _
/-- All of a table pushed, in whatever order. -/
theorem whole_ok {v u : Int} {l k w : List Le} (h : bX v l = 0) (h2 : bX u k = 0) (hv : v < u) (hp : w.Perm k) : ∃ r, ApplyOk v l true 0 u w [] r ∧ r.map (·.e) = k.map (·.e) := by
  have tk := fq h2
  have hck : ∀ x ∈ w, bj x.e.host = 0 := fun x hx => tk.ck _ (List.mem_map.2 ⟨x, hp.mem_iff.1 hx, rfl⟩)
  have hnd : (w.map fun y : Le => bh y.e.host).Nodup := by
    have h9 := tk.keys
    rw [List.map_map] at h9
    exact (hp.map _).nodup_iff.2 h9
  have he : (de [] w).map (·.e) = k.map (·.e) := by
    refine tbe_eq (eV hck g9) tk fun key => ?_
    rw [ec (l := []) hck hnd g9]
    show (bQ _ key).or none = _
    rw [Option.or_none, look_perm tk.hosts (hp.map _)]
  exact ⟨_, ⟨h, ⟨hv, (ee h2).2.2.2.2⟩, fun _ => ⟨rfl, rfl⟩, nofun, fun x hx => (ee h2).1 x (hp.mem_iff.1 hx), nofun, by rw [dK]; simpa using hnd, ⟨[], rfl, rfl⟩, by rw [d7 he]; exact (ee h2).2.2.1⟩, he⟩
/-- A delta's first part. -/
theorem part_one {v : Int} {l : List Le} {bs ver : Int} {put : List Le} {drop : List bg} {r : List Le} (h : ApplyOk v l false bs ver put drop r) (c : Nat) : ∃ m, cv l drop = some m ∧ r = de m put ∧ ApplyOk v l false bs ver (put.take c) drop (de m (put.take c)) := by
  obtain ⟨m, hm, rfl⟩ := h.mid
  have tm := h.mid_tbe hm
  have hs : (put.take c).Sublist put := List.take_sublist _ _
  have hck : ∀ x ∈ put.take c, bj x.e.host = 0 := fun x hx => h.hck x (hs.subset hx)
  have hdis : (dK (put.take c) drop).Nodup := h.dis.sublist (List.Sublist.append (hs.map _) (List.Sublist.refl _))
  have t1 := eV hck tm
  refine ⟨m, hm, rfl, h.tab, h.ver1, nofun, h.base, fun x hx => h.ents x (hs.subset hx), h.names, hdis, ⟨m, hm, rfl⟩, ?_⟩
  have h3 := nd_len17 (ys := ((de m put).map (·.e)).map fun e => bh e.host) t1.keys fun key hk => by
    rw [← look_isSome] at hk ⊢
    rw [ec hck (List.nodup_append.1 hdis).1 tm] at hk
    rw [ec h.hck h.pnd tm]
    cases hp : bQ (put.map (·.e)) key with
    | some e => rfl
    | none =>
      have : bQ ((put.take c).map (·.e)) key = none := look_none.2 fun e he => look_none.1 hp e ((hs.map _).subset he)
      rw [this] at hk; exact hk
  have h4 := h.len
  simp only [List.length_map] at h3
  omega
/-- .. its second. -/
theorem part_two {v : Int} {l : List Le} {bs ver : Int} {put : List Le} {drop : List bg} {r m r1 : List Le} (h : ApplyOk v l false bs ver put drop r) (c : Nat) (hv : ver < 2147483647) (hr : r = de m put) (h1 : ApplyOk v l false bs ver (put.take c) drop (de m (put.take c))) (he : r1.map (·.e) = (de m (put.take c)).map (·.e)) :
    ∃ r2, ApplyOk ver r1 false ver (ver + 1) (put.drop c) [] r2 ∧ r2.map (·.e) = r.map (·.e) := by
  have hs : (put.drop c).Sublist put := List.drop_sublist _ _
  have ht : bX ver r1 = 0 := by rw [tab_e17 ver he]; exact h1.tab2
  have e2 : (de r1 (put.drop c)).map (·.e) = r.map (·.e) := by
    rw [ik rfl he, hr]
    show ((put.drop c).foldl putE ((put.take c).foldl putE m)).map (·.e) = (put.foldl putE m).map (·.e)
    rw [← List.foldl_append, List.take_append_drop]
  exact ⟨_, ⟨ht, ⟨by omega, by omega⟩, nofun, fun _ => rfl, fun x hx => h.ents x (hs.subset hx), nofun, by rw [dK]; simpa using h.pnd.sublist (hs.map _), ⟨r1, rfl, rfl⟩, by rw [d7 e2]; exact h.len⟩, e2⟩

/-- Two rows in order, gone through side by side. -/
def gh : Nat → List Le → List Le → List (Option Le × Option Le)
  | 0, _, _ => []
  | _ + 1, [], [] => []
  | n + 1, x :: a, [] => (some x, none) :: gh n a []
  | n + 1, [], y :: b => (none, some y) :: gh n [] b
  | n + 1, x :: a, y :: b => if cn x.e.host y.e.host < 0 then (some x, none) :: gh n a (y :: b) else if 0 < cn x.e.host y.e.host then (none, some y) :: gh n (x :: a) b else (some x, some y) :: gh n a b
/-- .. by places. -/
def mrg : Nat → Nat → List Le → Nat → List Le → List (Option Nat × Option Nat)
  | 0, _, _, _, _ => []
  | _ + 1, _, [], _, [] => []
  | n + 1, i, _ :: a, j, [] => (some i, none) :: mrg n (i + 1) a j []
  | n + 1, i, [], j, _ :: b => (none, some j) :: mrg n i [] (j + 1) b
  | n + 1, i, x :: a, j, y :: b => if cn x.e.host y.e.host < 0 then (some i, none) :: mrg n (i + 1) a j (y :: b) else if 0 < cn x.e.host y.e.host then (none, some j) :: mrg n i (x :: a) (j + 1) b else (some i, some j) :: mrg n (i + 1) a (j + 1) b
theorem gc : ∀ (n m : Nat) (i : Nat) (a : List Le) (j : Nat) (b : List Le), a.length + b.length ≤ n → a.length + b.length ≤ m → mrg n i a j b = mrg m i a j b
  | 0, 0, _, _, _, _, _, _ => rfl
  | 0, m + 1, i, a, j, b, h, _ => by
    have h1 : a = [] := List.length_eq_zero_iff.1 (by omega)
    have h2 : b = [] := List.length_eq_zero_iff.1 (by omega)
    subst h1 h2; rfl
  | n + 1, 0, i, a, j, b, _, h => by
    have h1 : a = [] := List.length_eq_zero_iff.1 (by omega)
    have h2 : b = [] := List.length_eq_zero_iff.1 (by omega)
    subst h1 h2; rfl
  | n + 1, m + 1, i, a, j, b, h1, h2 => by
    cases a with
    | nil =>
      cases b with
      | nil => rfl
      | cons y b =>
        rw [mrg, mrg, gc n m i [] (j + 1) b (by simp at h1 ⊢; omega) (by simp at h2 ⊢; omega)]
    | cons x a =>
      cases b with
      | nil => rw [mrg, mrg, gc n m (i + 1) a j [] (by simp at h1 ⊢; omega) (by simp at h2 ⊢; omega)]
      | cons y b =>
        rw [mrg, mrg, gc n m (i + 1) a j (y :: b) (by simp at h1 ⊢; omega) (by simp at h2 ⊢; omega), gc n m i (x :: a) (j + 1) b (by simp at h1 ⊢; omega) (by simp at h2 ⊢; omega), gc n m (i + 1) a (j + 1) b (by simp at h1 ⊢; omega) (by simp at h2 ⊢; omega)]
/-- What is yet to come, from two places on. -/
def du (l p : List Le) (i j : Nat) : List (Option Nat × Option Nat) := mrg ((l.length - i) + (p.length - j)) i (l.drop i) j (p.drop j)
theorem eA {l p : List Le} {i j : Nat} (hi : l.length ≤ i) (hj : p.length ≤ j) : du l p i j = [] := by
  rw [du, show (l.length - i) + (p.length - j) = 0 by omega, mrg]
theorem dO {l p : List Le} {i j : Nat} (hi : i < l.length) (h : p.length ≤ j ∨ cn (l.getD i bO).e.host (p.getD j bO).e.host < 0) : du l p i j = (some i, none) :: du l p (i + 1) j := by
  rw [du, du, show (l.length - i) + (p.length - j) = ((l.length - (i + 1)) + (p.length - j)) + 1 by omega, cE l bO i hi]
  by_cases hj : p.length ≤ j
  · rw [List.drop_of_length_le hj, mrg]
  · rw [cE p bO j (by omega), mrg, if_pos (h.resolve_left hj)]
theorem dN {l p : List Le} {i j : Nat} (hj : j < p.length) (h : l.length ≤ i ∨ 0 < cn (l.getD i bO).e.host (p.getD j bO).e.host) : du l p i j = (none, some j) :: du l p i (j + 1) := by
  rw [du, du, show (l.length - i) + (p.length - j) = ((l.length - i) + (p.length - (j + 1))) + 1 by omega, cE p bO j hj]
  by_cases hi : l.length ≤ i
  · rw [List.drop_of_length_le hi, mrg]
  · have := h.resolve_left hi
    rw [cE l bO i (by omega), mrg, if_neg (by omega), if_pos this]
theorem eS {l p : List Le} {i j : Nat} (hi : i < l.length) (hj : j < p.length) (h : cn (l.getD i bO).e.host (p.getD j bO).e.host = 0) : du l p i j = (some i, some j) :: du l p (i + 1) (j + 1) := by
  rw [du, du, show (l.length - i) + (p.length - j) = ((l.length - (i + 1)) + (p.length - j)) + 1 by omega, cE l bO i hi, cE p bO j hj, mrg, if_neg (by omega), if_neg (by omega)]
  congr 1
  exact gc _ _ _ _ _ _ (by simp; omega) (by simp)
def gv (l p : List Le) (q : Option Nat × Option Nat) : Option Le × Option Le := (q.1.map (l.getD · bO), q.2.map (p.getD · bO))
theorem mrg_V (l p : List Le) : ∀ (n i j : Nat), (mrg n i (l.drop i) j (p.drop j)).map (gv l p) = gh n (l.drop i) (p.drop j)
  | 0, _, _ => rfl
  | n + 1, i, j => by
    by_cases hi : i < l.length
    · rw [cE l bO i hi]
      by_cases hj : j < p.length
      · rw [cE p bO j hj, mrg, gh]
        have e1 := mrg_V l p n (i + 1) j
        have e2 := mrg_V l p n i (j + 1)
        have e3 := mrg_V l p n (i + 1) (j + 1)
        rw [cE p bO j hj] at e1
        rw [cE l bO i hi] at e2
        split
        · rw [List.map_cons, e1]; rfl
        · split
          · rw [List.map_cons, e2]; rfl
          · rw [List.map_cons, e3]; rfl
      · have e1 := mrg_V l p n (i + 1) j
        have ep : p.drop j = [] := List.drop_of_length_le (by omega)
        rw [ep] at e1 ⊢
        rw [mrg, gh, List.map_cons, e1]; rfl
    · have e2 := mrg_V l p n i (j + 1)
      have el : l.drop i = [] := List.drop_of_length_le (by omega)
      rw [el] at e2 ⊢
      by_cases hj : j < p.length
      · rw [cE p bO j hj, mrg, gh, List.map_cons, e2]; rfl
      · rw [List.drop_of_length_le (by omega), mrg, gh]; rfl
def outV (q : Option Le × Option Le) : Le := (q.2.or q.1).getD bO
def fG (n : Nat) (a b : List Le) : List Le := (gh n a b).map outV
theorem ez : ∀ (n : Nat) {a b : List Le} {z : Le}, z ∈ fG n a b → z ∈ a ∨ z ∈ b
  | 0, _, _, _, h => by cases h
  | n + 1, [], [], _, h => by cases h
  | n + 1, x :: a, [], z, h => by
    rcases List.mem_cons.1 (show z ∈ x :: fG n a [] from h) with rfl | h
    · exact .inl (.head _)
    · exact (ez n h).imp (.tail _) id
  | n + 1, [], y :: b, z, h => by
    rcases List.mem_cons.1 (show z ∈ y :: fG n [] b from h) with rfl | h
    · exact .inr (.head _)
    · exact (ez n h).imp id (.tail _)
  | n + 1, x :: a, y :: b, z, h => by
    rw [fG, gh] at h
    split at h
    · rcases List.mem_cons.1 (show z ∈ x :: fG n a (y :: b) from h) with rfl | h
      · exact .inl (.head _)
      · exact (ez n h).imp (.tail _) id
    · split at h
      · rcases List.mem_cons.1 (show z ∈ y :: fG n (x :: a) b from h) with rfl | h
        · exact .inr (.head _)
        · exact (ez n h).imp id (.tail _)
      · rcases List.mem_cons.1 (show z ∈ y :: fG n a b from h) with rfl | h
        · exact .inr (.head _)
        · exact (ez n h).imp (.tail _) (.tail _)
theorem dZ {x : Le} {a : List Le} (h : TbE ((x :: a).map (·.e))) : bj x.e.host = 0 ∧ (∀ z ∈ a, cn x.e.host z.e.host < 0) ∧ TbE (a.map (·.e)) := by
  obtain ⟨h1, h2⟩ := List.pairwise_cons.1 h.up
  exact ⟨h.ck _ (.head _), fun z hz => h1 _ (List.mem_map.2 ⟨z, hz, rfl⟩), fun e he => h.ck e (.tail _ he), h2⟩
theorem tbe_of {x : Le} {a : List Le} (h1 : bj x.e.host = 0) (h2 : ∀ z ∈ a, cn x.e.host z.e.host < 0) (h3 : TbE (a.map (·.e))) : TbE ((x :: a).map (·.e)) :=
  ⟨fun e he => by
    rcases List.mem_cons.1 (show e ∈ x.e :: a.map (·.e) from he) with rfl | he
    · exact h1
    · exact h3.ck e he, List.pairwise_cons.2 ⟨fun e he => by
      obtain ⟨z, hz, rfl⟩ := List.mem_map.1 he
      exact h2 z hz, h3.up⟩⟩
theorem gb : ∀ (n : Nat) {a b : List Le}, TbE (a.map (·.e)) → TbE (b.map (·.e)) → TbE ((fG n a b).map (·.e))
  | 0, _, _, _, _ => g9
  | n + 1, [], [], _, _ => g9
  | n + 1, x :: a, [], ha, hb => by
    obtain ⟨h1, h2, h3⟩ := dZ ha
    exact tbe_of (a := fG n a []) h1 (fun z hz => (ez n hz).elim (h2 z) nofun) (gb n h3 hb)
  | n + 1, [], y :: b, ha, hb => by
    obtain ⟨h1, h2, h3⟩ := dZ hb
    exact tbe_of (a := fG n [] b) h1 (fun z hz => (ez n hz).elim nofun (h2 z)) (gb n ha h3)
  | n + 1, x :: a, y :: b, ha, hb => by
    obtain ⟨h1, h2, h3⟩ := dZ ha
    obtain ⟨k1, k2, k3⟩ := dZ hb
    rw [fG, gh]
    split
    · rename_i hc
      exact tbe_of (a := fG n a (y :: b)) h1 (fun z hz => (ez n hz).elim (h2 z) fun q => by
        rcases List.mem_cons.1 q with rfl | q
        · exact hc
        · exact dQ hc (k2 z q)) (gb n h3 hb)
    · split
      · rename_i hc
        have hc2 : cn y.e.host x.e.host < 0 := by rw [dE x.e.host]; omega
        exact tbe_of (a := fG n (x :: a) b) k1 (fun z hz => (ez n hz).elim (fun q => by
          rcases List.mem_cons.1 q with rfl | q
          · exact hc2
          · exact dQ hc2 (h2 z q)) (k2 z)) (gb n ha k3)
      · rename_i c1 c2
        have hc : cn x.e.host y.e.host = 0 := by omega
        have hf := (dJ h1 k1).1 hc
        exact tbe_of (a := fG n a b) k1 (fun z hz => (ez n hz).elim (fun q => by
          have e9 := fE k1 h1 hf.symm z.e.host
          have e8 := h2 z q
          show cn y.e.host z.e.host < 0
          rw [e9]; exact e8) (k2 z)) (gb n h3 k3)
theorem look_lt {x : Le} {b : List Le} (hx : bj x.e.host = 0) (hb : TbE (b.map (·.e))) (h : ∀ z ∈ b, cn x.e.host z.e.host < 0) : bQ (b.map (·.e)) (bh x.e.host) = none := look_none.2 fun e he q => by
  obtain ⟨z, hz, rfl⟩ := List.mem_map.1 he
  exact cmpN_ne hx (hb.ck _ he) (h z hz) q.symm
theorem lt_all {x y : Le} {b : List Le} (hc : cn x.e.host y.e.host < 0) (h : ∀ z ∈ b, cn y.e.host z.e.host < 0) : ∀ z ∈ y :: b, cn x.e.host z.e.host < 0 := fun z hz => by
  rcases List.mem_cons.1 hz with rfl | hz
  · exact hc
  · exact dQ hc (h z hz)
theorem fB {key : bg} : ∀ (n : Nat) {a b : List Le}, a.length + b.length ≤ n → TbE (a.map (·.e)) → TbE (b.map (·.e)) → bQ ((fG n a b).map (·.e)) key = (bQ (b.map (·.e)) key).or (bQ (a.map (·.e)) key)
  | 0, a, b, h, _, _ => by
    have h1 : a = [] := List.length_eq_zero_iff.1 (by omega)
    have h2 : b = [] := List.length_eq_zero_iff.1 (by omega)
    subst h1 h2; rfl
  | n + 1, [], [], _, _, _ => rfl
  | n + 1, x :: a, [], h, ha, hb => by
    obtain ⟨h1, h2, h3⟩ := dZ ha
    show bQ ((x :: fG n a []).map (·.e)) key = _
    rw [List.map_cons, cC, fB n (by simp at h ⊢; omega) h3 hb, List.map_cons, cC]; rfl
  | n + 1, [], y :: b, h, ha, hb => by
    obtain ⟨h1, h2, h3⟩ := dZ hb
    show bQ ((y :: fG n [] b).map (·.e)) key = _
    rw [List.map_cons, cC, fB n (by simp at h ⊢; omega) ha h3, List.map_cons, cC]
    split <;> rfl
  | n + 1, x :: a, y :: b, h, ha, hb => by
    obtain ⟨h1, h2, h3⟩ := dZ ha
    obtain ⟨k1, k2, k3⟩ := dZ hb
    rw [fG, gh]
    split
    · rename_i hc
      show bQ ((x :: fG n a (y :: b)).map (·.e)) key = _
      rw [List.map_cons, cC, fB n (by simp at h ⊢; omega) h3 hb, List.map_cons (f := (·.e)) (a := x), cC]
      by_cases hk : bh x.e.host = key
      · rw [if_pos hk, if_pos hk, ← hk, look_lt h1 hb (lt_all hc k2)]; rfl
      · rw [if_neg hk, if_neg hk]
    · split
      · rename_i hc
        have hc2 : cn y.e.host x.e.host < 0 := by rw [dE x.e.host]; omega
        show bQ ((y :: fG n (x :: a) b).map (·.e)) key = _
        rw [List.map_cons, cC, fB n (by simp at h ⊢; omega) ha k3, List.map_cons (f := (·.e)) (a := y), cC]
        split <;> rfl
      · rename_i c1 c2
        have hc : cn x.e.host y.e.host = 0 := by omega
        have hf := (dJ h1 k1).1 hc
        show bQ ((y :: fG n a b).map (·.e)) key = _
        rw [List.map_cons, cC, fB n (by simp at h ⊢; omega) h3 k3, List.map_cons, cC, List.map_cons, cC, hf]
        split <;> rfl
theorem sorted_tbe {put ys : List Le} (hp : ys.Perm put) (hs : ys.Pairwise fun a b => ¬ cn b.e.host a.e.host < 0) (hck : ∀ x ∈ put, bj x.e.host = 0) (hnd : (put.map fun y : Le => bh y.e.host).Nodup) : TbE (ys.map (·.e)) := ⟨fun e he => by
  obtain ⟨z, hz, rfl⟩ := List.mem_map.1 he
  exact hck z (hp.mem_iff.1 hz), by
  rw [List.pairwise_map]
  have hn := (hp.map fun y : Le => bh y.e.host).nodup_iff.2 hnd
  rw [List.Nodup, List.pairwise_map] at hn
  rw [List.pairwise_iff_getElem] at hs hn ⊢
  intro i j hi hj hij
  have q1 := hs i j hi hj hij
  have q2 := hn i j hi hj hij
  have c1 := hck _ (hp.mem_iff.1 (List.getElem_mem hi))
  have c2 := hck _ (hp.mem_iff.1 (List.getElem_mem hj))
  have q3 : cn ys[i].e.host ys[j].e.host ≠ 0 := fun q => q2 ((dJ c1 c2).1 q)
  have q4 := dE ys[i].e.host ys[j].e.host
  omega⟩
/-- The program's way: sorted, and gone through side by side. -/
theorem merge_put {m put ys : List Le} (tm : TbE (m.map (·.e))) (hp : ys.Perm put) (hs : ys.Pairwise fun a b => ¬ cn b.e.host a.e.host < 0) (hck : ∀ x ∈ put, bj x.e.host = 0) (hnd : (put.map fun y : Le => bh y.e.host).Nodup) :
    ((du m ys 0 0).map fun q => outV (gv m ys q)).map (·.e) = (de m put).map (·.e) := by
  have ty := sorted_tbe hp hs hck hnd
  have e : ((du m ys 0 0).map fun q => outV (gv m ys q)) = fG (m.length + ys.length) m ys := by
    rw [fG, ← List.drop_zero (l := m), ← List.drop_zero (l := ys), ← mrg_V m ys, List.map_map]; rfl
  rw [e]
  have hP : HostsOk (put.map (·.e)) := look_hosts ty.hosts fun e he => by
    obtain ⟨z, hz, rfl⟩ := List.mem_map.1 he
    exact List.mem_map.2 ⟨z, hp.mem_iff.2 hz, rfl⟩
  refine tbe_eq (gb _ tm ty) (eV hck tm) fun key => ?_
  rw [fB _ (Nat.le_refl _) tm ty, ec hck hnd tm, look_perm hP (hp.map _)]
/-- What a pair tells to drop, to put. -/
def dropV : Option Le × Option Le → Option bg
  | (some x, none) => some x.e.host
  | _ => none
def putV : Option Le × Option Le → Option Le
  | (ox, some y) => if ox.map (·.e) = some y.e then none else some y
  | _ => none
theorem look_skip {y : Le} {b : List Le} {x : Le} (hx : bj x.e.host = 0) (hy : bj y.e.host = 0) (h : cn y.e.host x.e.host < 0) : bQ ((y :: b).map (·.e)) (bh x.e.host) = bQ (b.map (·.e)) (bh x.e.host) := by
  rw [List.map_cons, cC, if_neg (cmpN_ne hy hx h)]
theorem dd_skip {a b : List Le} {y : Le} (ha : TbE (a.map (·.e))) (hy : bj y.e.host = 0) (h : ∀ x ∈ a, cn y.e.host x.e.host < 0) : cJ a (y :: b) = cJ a b := by
  rw [cJ, cJ]
  congr 1
  exact List.filter_congr fun x hx => by rw [look_skip (ha.ck _ (List.mem_map.2 ⟨x, hx, rfl⟩)) hy (h x hx)]
theorem dp_skip {a b : List Le} {x : Le} (hb : TbE (b.map (·.e))) (hx : bj x.e.host = 0) (h : ∀ y ∈ b, cn x.e.host y.e.host < 0) : cZ (x :: a) b = cZ a b := by
  rw [cZ, cZ]
  exact List.filter_congr fun y hy => by rw [look_skip (hb.ck _ (List.mem_map.2 ⟨y, hy, rfl⟩)) hx (h y hy)]
theorem dd_cons (x : Le) (a b : List Le) : cJ (x :: a) b = (if (bQ (b.map (·.e)) (bh x.e.host)).isSome = true then [] else [x.e.host]) ++ cJ a b := by
  rw [cJ, List.filter_cons]
  cases (bQ (b.map (·.e)) (bh x.e.host)).isSome <;> rfl
theorem dp_cons (a : List Le) (y : Le) (b : List Le) : cZ a (y :: b) = (if bQ (a.map (·.e)) (bh y.e.host) = some y.e then [] else [y]) ++ cZ a b := by
  rw [cZ, List.filter_cons]
  by_cases h : bQ (a.map (·.e)) (bh y.e.host) = some y.e
  · rw [if_pos h, decide_eq_false (fun q => q h)]; rfl
  · rw [if_neg h, decide_eq_true h]; rfl
theorem fA : ∀ (n : Nat) {a b : List Le}, a.length + b.length ≤ n → TbE (a.map (·.e)) → TbE (b.map (·.e)) → (gh n a b).filterMap dropV = cJ a b ∧ (gh n a b).filterMap putV = cZ a b
  | 0, a, b, h, _, _ => by
    have h1 : a = [] := List.length_eq_zero_iff.1 (by omega)
    have h2 : b = [] := List.length_eq_zero_iff.1 (by omega)
    subst h1 h2; exact ⟨rfl, rfl⟩
  | n + 1, [], [], _, _, _ => ⟨rfl, rfl⟩
  | n + 1, x :: a, [], h, ha, hb => by
    obtain ⟨h1, h2, h3⟩ := dZ ha
    obtain ⟨i1, i2⟩ := fA n (a := a) (b := []) (by simp at h ⊢; omega) h3 hb
    rw [gh, List.filterMap_cons, List.filterMap_cons, i1, i2, dd_cons]
    exact ⟨rfl, rfl⟩
  | n + 1, [], y :: b, h, ha, hb => by
    obtain ⟨h1, h2, h3⟩ := dZ hb
    obtain ⟨i1, i2⟩ := fA n (a := []) (b := b) (by simp at h ⊢; omega) ha h3
    rw [gh, List.filterMap_cons, List.filterMap_cons, i1, i2, dp_cons]
    exact ⟨rfl, rfl⟩
  | n + 1, x :: a, y :: b, h, ha, hb => by
    obtain ⟨h1, h2, h3⟩ := dZ ha
    obtain ⟨k1, k2, k3⟩ := dZ hb
    rw [gh]
    split
    · rename_i hc
      obtain ⟨i1, i2⟩ := fA n (a := a) (b := y :: b) (by simp at h ⊢; omega) h3 hb
      rw [List.filterMap_cons, List.filterMap_cons, i1, i2, dd_cons, look_lt h1 hb (lt_all hc k2), dp_skip hb h1 (lt_all hc k2)]
      exact ⟨rfl, rfl⟩
    · split
      · rename_i hc
        have hc2 : cn y.e.host x.e.host < 0 := by rw [dE x.e.host]; omega
        obtain ⟨i1, i2⟩ := fA n (a := x :: a) (b := b) (by simp at h ⊢; omega) ha k3
        rw [List.filterMap_cons, List.filterMap_cons, i1, i2, dp_cons, look_lt k1 ha (lt_all hc2 h2), dd_skip ha k1 (lt_all hc2 h2)]
        exact ⟨rfl, rfl⟩
      · rename_i c1 c2
        have hc : cn x.e.host y.e.host = 0 := by omega
        have hf := (dJ h1 k1).1 hc
        obtain ⟨i1, i2⟩ := fA n (a := a) (b := b) (by simp at h ⊢; omega) h3 k3
        have l1 : bQ ((y :: b).map (·.e)) (bh x.e.host) = some y.e := by rw [List.map_cons, cC, if_pos hf.symm]
        have l2 : bQ ((x :: a).map (·.e)) (bh y.e.host) = some x.e := by rw [List.map_cons, cC, if_pos hf]
        have s1 : cJ a (y :: b) = cJ a b := dd_skip h3 k1 fun z hz => by rw [fE k1 h1 hf.symm]; exact h2 z hz
        have s2 : cZ (x :: a) b = cZ a b := dp_skip k3 h1 fun z hz => by rw [fE h1 k1 hf]; exact k2 z hz
        rw [List.filterMap_cons, List.filterMap_cons, i1, i2, dd_cons, l1, s1, dp_cons, l2, s2]
        refine ⟨rfl, ?_⟩
        by_cases he : x.e = y.e
        · rw [if_pos (by rw [he]), show putV (some x, some y) = none from if_pos (congrArg some he)]; rfl
        · have he2 : ¬ some x.e = some y.e := fun q => he (Option.some.inj q)
          rw [if_neg he2, show putV (some x, some y) = some y from if_neg he2]; rfl
theorem merge_diff {l k : List Le} (tl : TbE (l.map (·.e))) (tk : TbE (k.map (·.e))) : ((du l k 0 0).map (gv l k)).filterMap dropV = cJ l k ∧ ((du l k 0 0).map (gv l k)).filterMap putV = cZ l k := by
  have e : (du l k 0 0).map (gv l k) = gh (l.length + k.length) l k := by
    have := mrg_V l k (l.length + k.length) 0 0
    simpa [du] using this
  rw [e]
  exact fA _ (Nat.le_refl _) tl tk

end Go.Proofs.Ytnpdgmoeoidppaa
