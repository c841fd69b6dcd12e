import Derived.Test.YtnpdgmoeoidppaaLsQc
import Derived.Test.YtnpdgmoeoidppaaLuQc
/- tables in plain words: what a push makes, what is told apart -/
namespace Go.Proofs.Ytnpdgmoeoidppaa
open Go.RowKit Go.Shelf
set_option linter.unusedVariables false
set_option linter.unusedSimpArgs false

theorem find_perm17 {α : Type} {l l' : List α} (hp : l'.Perm l) {F : α → Bool} (hu : ∀ a ∈ l, ∀ b ∈ l, F a = true → F b = true → a = b) : l'.find? F = l.find? F := by
  cases h1 : l.find? F with
  | none =>
    rw [List.find?_eq_none] at h1 ⊢
    exact fun a ha => h1 a (hp.mem_iff.1 ha)
  | some a =>
    have ha := List.mem_of_find?_eq_some h1
    have hF := List.find?_some h1
    cases h2 : l'.find? F with
    | none => exact absurd hF (List.find?_eq_none.1 h2 a (hp.mem_iff.2 ha))
    | some b => rw [hu a ha b (hp.mem_iff.1 (List.mem_of_find?_eq_some h2)) hF (List.find?_some h2)]
theorem up_eqR {α : Type} {R : α → α → Prop} (irr : ∀ a, ¬ R a a) (tr : ∀ a b c, R a b → R b c → R a c) : ∀ {xs ys : List α}, xs.Pairwise R → ys.Pairwise R → (∀ r, r ∈ xs ↔ r ∈ ys) → xs = ys
  | [], [], _, _, _ => rfl
  | [], y :: ys, _, _, h => absurd ((h y).2 (.head _)) nofun
  | x :: xs, [], _, _, h => absurd ((h x).1 (.head _)) nofun
  | x :: xs, y :: ys, h1, h2, h => by
    rw [List.pairwise_cons] at h1 h2
    have e : x = y := by
      rcases List.mem_cons.1 ((h x).1 (.head _)) with e | hx
      · exact e
      · rcases List.mem_cons.1 ((h y).2 (.head _)) with e | hy
        · exact e.symm
        · exact absurd (tr _ _ _ (h1.1 y hy) (h2.1 x hx)) (irr x)
    subst e
    have ht : ∀ r, r ∈ xs ↔ r ∈ ys := fun r => by
      constructor
      · intro hr
        rcases List.mem_cons.1 ((h r).1 (.tail _ hr)) with e | hy
        · exact absurd (e ▸ h1.1 r hr) (irr x)
        · exact hy
      · intro hr
        rcases List.mem_cons.1 ((h r).2 (.tail _ hr)) with e | hy
        · exact absurd (e ▸ h2.1 r hr) (irr x)
        · exact hy
    rw [up_eqR irr tr h1.2 h2.2 ht]
theorem fj : ∀ s t : List aW, c7 s t = c7 (s.map cG) (t.map cG)
  | [], [] => rfl
  | [], _ :: _ => rfl
  | _ :: _, [] => rfl
  | a :: s, b :: t => by
    simp only [List.map_cons, c7, lowS_idem]
    rw [fj s t]
theorem gN {a a' : aW} (ha : bi a = 0) (ha' : bi a' = 0) (h : bg a = bg a') (b : aW) : bP a b = bP a' b := by
  rw [bP, bP, fj, fj (bE a').reverse, List.map_reverse, List.map_reverse, (fold_labs ha ha').1 h, ← List.map_reverse]
theorem cmpN_self (a : aW) : bP a a = 0 := by have := dg a a; omega
theorem cmpN_ne {a b : aW} (ha : bi a = 0) (hb : bi b = 0) (h : bP a b < 0) : bg a ≠ bg b := fun e => by
  rw [(dm ha hb).2 e] at h; omega
/-- Entries in a table's order, of hosts that may be. -/
structure TbE (es : List En) : Prop where
  ck : ∀ e ∈ es, bi e.host = 0
  up : es.Pairwise fun a b => bP a.host b.host < 0
theorem fZ : TbE [] := ⟨nofun, .nil⟩
theorem TbE.sub {es fs : List En} (h : TbE es) (hs : fs.Sublist es) : TbE fs := ⟨fun e he => h.ck e (hs.subset he), h.up.sublist hs⟩
theorem TbE.keys {es : List En} (h : TbE es) : (es.map fun e => bg e.host).Nodup := by
  rw [List.Nodup, List.pairwise_map]
  have := h.up
  rw [List.pairwise_iff_getElem] at this ⊢
  exact fun i j hi hj hij => cmpN_ne (h.ck _ (List.getElem_mem hi)) (h.ck _ (List.getElem_mem hj)) (this i j hi hj hij)
theorem TbE.hosts {es : List En} (h : TbE es) : HostsOk es := ⟨h.ck, fun e he f hf hef => by
  obtain ⟨i, hi, rfl⟩ := List.mem_iff_getElem.1 he
  obtain ⟨j, hj, rfl⟩ := List.mem_iff_getElem.1 hf
  have hp := List.pairwise_iff_getElem.1 h.keys
  rcases Nat.lt_trichotomy i j with q | q | q
  · exact absurd (by rw [List.getElem_map, List.getElem_map]; exact hef) (hp i j (by simpa using hi) (by simpa using hj) q)
  · subst q; rfl
  · exact absurd (by rw [List.getElem_map, List.getElem_map]; exact hef.symm) (hp j i (by simpa using hj) (by simpa using hi) q)⟩
theorem tbe_eq {es fs : List En} (h : TbE es) (k : TbE fs) (hl : ∀ key, bS es key = bS fs key) : es = fs :=
  up_eqR (R := fun a b : En => bP a.host b.host < 0) (fun a q => by have := cmpN_self a.host; omega) (fun a b c q1 q2 => c9 q1 q2) h.up k.up fun r => by
    constructor
    · intro hr; have := look_some h.hosts hr; rw [hl] at this; exact (look_mem this).1
    · intro hr; have := look_some k.hosts hr; rw [← hl] at this; exact (look_mem this).1
theorem tab_tbe {v : Int} {l : List Le} (h : bY v l = 0) : TbE (l.map (·.e)) := ⟨(tab_hosts h).ck, by
  rw [List.pairwise_iff_getElem]
  intro i j hi hj hij
  obtain ⟨d, rfl⟩ : ∃ d, j = i + d + 1 := ⟨j - i - 1, by omega⟩
  have h3 := rises_far (tab_zero h).2.1 i d (by simpa using hj)
  rw [List.getElem_map, List.getElem_map]
  have g : ∀ k (hk : k < l.length), hst l k = (l[k]).e.host := fun k hk => by rw [hst, List.getD_eq_getElem?_getD, List.getElem?_eq_getElem hk]; rfl
  rw [g _ (by simpa using hi), g _ (by simpa using hj)] at h3
  exact h3⟩
theorem look_nil (key : aW) : bS [] key = none := rfl
theorem cv (e : En) (r : List En) (key : aW) : bS (e :: r) key = if bg e.host = key then some e else bS r key := by
  rw [bS, List.find?_cons]
  by_cases h : bg e.host = key
  · rw [decide_eq_true h, if_pos h]
  · rw [decide_eq_false h, if_neg h]; rfl
theorem gX (a b : List En) (key : aW) : bS (a ++ b) key = (bS a key).or (bS b key) := by rw [bS, List.find?_append]; rfl
theorem look_none {es : List En} {key : aW} : bS es key = none ↔ ∀ e ∈ es, bg e.host ≠ key := by
  rw [bS, List.find?_eq_none]; simp
theorem look_isSome {es : List En} {key : aW} : (bS es key).isSome = true ↔ key ∈ es.map fun e => bg e.host := by
  constructor
  · intro h
    cases hl : bS es key with
    | none => rw [hl] at h; cases h
    | some e => obtain ⟨h1, h2⟩ := look_mem hl; exact List.mem_map.2 ⟨e, h1, h2⟩
  · intro h
    obtain ⟨e, he, rfl⟩ := List.mem_map.1 h
    cases hl : bS es (bg e.host) with
    | none => exact absurd rfl (look_none.1 hl e he)
    | some f => rfl
theorem look_filter {es : List En} {p : aW → Bool} {key : aW} : bS (es.filter fun e => p (bg e.host)) key = if p key = true then bS es key else none := by
  induction es with
  | nil => simp [look_nil]
  | cons e r ih =>
    rw [List.filter_cons]
    by_cases hp : p (bg e.host) = true
    · rw [if_pos hp, cv, cv, ih]
      by_cases h : bg e.host = key
      · rw [if_pos h, if_pos h, if_pos (by rw [← h]; exact hp)]
      · rw [if_neg h, if_neg h]
    · rw [if_neg hp, ih, cv]
      by_cases h : bg e.host = key
      · rw [if_neg (by rw [← h]; exact hp), if_neg (by rw [← h]; exact hp)]
      · rw [if_neg h]
theorem putG_sub (x : Le) : ∀ (l : List Le), (fg x true l).Sublist l
  | [] => by rw [fg]; exact .slnil
  | y :: r => by
    rw [fg]
    have ih := putG_sub x r
    show ([] ++ (if bP x.e.host y.e.host ≠ 0 then [y] else []) ++ fg x true r).Sublist _
    split
    · exact .cons_cons _ ih
    · exact .cons _ ih
section
variable {x : Le} (hx : bi x.e.host = 0)
include hx
theorem look_putG {key : aW} : ∀ (l : List Le) (d : Bool), (∀ y ∈ l, bi y.e.host = 0) → bS ((fg x d l).map (·.e)) key = if bg x.e.host = key then (if d = true then none else some x.e) else bS (l.map (·.e)) key
  | [], d, _ => by
    cases d
    · show bS [x.e] key = if bg x.e.host = key then some x.e else bS [] key
      exact cv _ _ _
    · show none = if bg x.e.host = key then none else none
      split <;> rfl
  | y :: r, d, hl => by
    have ih := fun d => look_putG (key := key) r d (fun z hz => hl z (.tail _ hz))
    have hy : bi y.e.host = 0 := hl y (.head _)
    rw [fg, List.map_append, List.map_append, gX, gX, ih, List.map_cons, cv]
    by_cases hk : bg x.e.host = key
    · rw [if_pos hk, if_pos hk]
      have h2 : bS ((if bP x.e.host y.e.host ≠ 0 then [y] else []).map (·.e)) key = none := by
        split
        · rename_i h; exact (cv _ _ _).trans (if_neg (fun q => h ((dm hx hy).2 (hk.trans q.symm))))
        · rfl
      rw [h2]
      cases d
      · by_cases hc : bP x.e.host y.e.host ≤ 0
        · rw [decide_eq_true hc]
          show ((bS [x.e] key).or none).or _ = _
          rw [cv, if_pos hk]; rfl
        · rw [decide_eq_false hc]; rfl
      · show (none.or none).or _ = _
        simp
    · rw [if_neg hk, if_neg hk]
      have h1 : bS ((if (!d && decide (bP x.e.host y.e.host ≤ 0)) = true then [x] else []).map (·.e)) key = none := by
        split
        · exact (cv _ _ _).trans (if_neg hk)
        · rfl
      rw [h1, Option.none_or]
      by_cases hc : bP x.e.host y.e.host ≠ 0
      · rw [if_pos hc]
        show (bS [y.e] key).or _ = _
        rw [cv]
        split <;> rfl
      · rw [if_neg hc, if_neg (fun q => hk (((dm hx hy).1 (Decidable.not_not.1 hc)).trans q))]; rfl
theorem putG_up : ∀ (l : List Le), TbE (l.map (·.e)) → ((fg x false l).map (·.e)).Pairwise fun a b => bP a.host b.host < 0
  | [], _ => by rw [fg]; exact List.pairwise_singleton _ _
  | y :: r, h => by
    have hy : bi y.e.host = 0 := h.ck _ (.head _)
    obtain ⟨h1, h2⟩ := List.pairwise_cons.1 h.up
    have hr : TbE (r.map (·.e)) := ⟨fun e he => h.ck e (.tail _ he), h2⟩
    rw [fg]
    by_cases hc : bP x.e.host y.e.host ≤ 0
    · rw [decide_eq_true hc]
      have hsub := (putG_sub x r).map (·.e)
      have hrest : (((if bP x.e.host y.e.host ≠ 0 then [y] else []) ++ fg x true r).map (·.e)).Sublist ((y :: r).map (·.e)) := by
        split
        · exact .cons_cons _ hsub
        · exact .cons _ hsub
      show (([x] ++ (if bP x.e.host y.e.host ≠ 0 then [y] else []) ++ fg x (false || true) r).map (·.e)).Pairwise _
      rw [List.append_assoc]
      refine List.pairwise_cons.2 ⟨fun z hz => ?_, h.up.sublist hrest⟩
      by_cases h0 : bP x.e.host y.e.host = 0
      · have hz2 : z ∈ r.map (·.e) := by
          rw [if_neg (fun q => q h0)] at hz
          exact hsub.subset hz
        have := h1 z hz2
        rw [gN hx hy ((dm hx hy).1 h0)]; exact this
      · rcases List.mem_cons.1 (hrest.subset hz) with rfl | hz2
        · exact (by omega : bP x.e.host y.e.host < 0)
        · exact c9 (by omega : bP x.e.host y.e.host < 0) (h1 z hz2)
    · have h9 : bP x.e.host y.e.host ≠ 0 := by omega
      rw [decide_eq_false hc, if_pos h9]
      show ((y :: fg x false r).map (·.e)).Pairwise _
      refine List.pairwise_cons.2 ⟨fun z hz => ?_, putG_up r hr⟩
      obtain ⟨q, hq, rfl⟩ := List.mem_map.1 hz
      rcases gY hq with rfl | hq
      · have := dg q.e.host y.e.host; show bP y.e.host q.e.host < 0; omega
      · exact h1 _ (List.mem_map.2 ⟨q, hq, rfl⟩)
theorem putE_tbe {l : List Le} (h : TbE (l.map (·.e))) : TbE ((putE l x).map (·.e)) := ⟨fun e he => by
  obtain ⟨q, hq, rfl⟩ := List.mem_map.1 he
  rcases gY hq with rfl | hq
  · exact hx
  · exact h.ck _ (List.mem_map.2 ⟨q, hq, rfl⟩), putG_up hx l h⟩
theorem putE_look {l : List Le} (h : TbE (l.map (·.e))) (key : aW) : bS ((putE l x).map (·.e)) key = if bg x.e.host = key then some x.e else bS (l.map (·.e)) key := by
  rw [putE, look_putG hx l false (fun y hy => h.ck _ (List.mem_map.2 ⟨y, hy, rfl⟩))]; simp
end
theorem gC : ∀ {p l : List Le}, (∀ x ∈ p, bi x.e.host = 0) → TbE (l.map (·.e)) → TbE ((di l p).map (·.e))
  | [], _, _, h => h
  | x :: p, l, hp, h => gC (p := p) (fun y hy => hp y (.tail _ hy)) (putE_tbe (hp x (.head _)) h)
theorem e6 {key : aW} : ∀ {p l : List Le}, (∀ x ∈ p, bi x.e.host = 0) → (p.map fun y : Le => bg y.e.host).Nodup → TbE (l.map (·.e)) → bS ((di l p).map (·.e)) key = (bS (p.map (·.e)) key).or (bS (l.map (·.e)) key)
  | [], _, _, _, _ => rfl
  | x :: p, l, hp, hn, h => by
    rw [List.map_cons, List.nodup_cons] at hn
    show bS ((di (putE l x) p).map (·.e)) key = _
    rw [e6 (fun y hy => hp y (.tail _ hy)) hn.2 (putE_tbe (hp x (.head _)) h), putE_look (hp x (.head _)) h, List.map_cons, cv]
    by_cases hk : bg x.e.host = key
    · have : bS (p.map (·.e)) key = none := look_none.2 fun e he q => by
        obtain ⟨y, hy, rfl⟩ := List.mem_map.1 he
        exact hn.1 (List.mem_map.2 ⟨y, hy, q.trans hk.symm⟩)
      rw [this, if_pos hk, if_pos hk]; rfl
    · rw [if_neg hk, if_neg hk]
/-- What is left when some hosts are dropped; none: one of them isn't there. -/
def b8 : List Le → List aW → Option (List Le)
  | l, [] => some l
  | l, n :: r => if (bS (l.map (·.e)) (bg n)).isSome = true then b8 (l.filter fun y => decide (bg y.e.host ≠ bg n)) r else none
theorem fJ (l : List Le) (p : aW → Bool) : (l.filter fun y => p (bg y.e.host)).map (·.e) = (l.map (·.e)).filter fun e => p (bg e.host) := by
  rw [List.filter_map]; rfl
theorem g6 {key : aW} : ∀ {ds : List aW} {l r : List Le}, b8 l ds = some r → bS (r.map (·.e)) key = if key ∈ ds.map bg then none else bS (l.map (·.e)) key
  | [], l, r, h => by rw [b8] at h; cases h; simp
  | n :: ds, l, r, h => by
    rw [b8] at h
    split at h
    · rw [g6 h, fJ l (fun s => decide (s ≠ bg n)), look_filter (p := fun s => decide (s ≠ bg n)), List.map_cons]
      by_cases hk : key ∈ ds.map bg
      · rw [if_pos hk, if_pos (.tail _ hk)]
      · rw [if_neg hk]
        by_cases hn : key = bg n
        · rw [if_neg (by simp [hn]), if_pos (by rw [hn]; exact .head _)]
        · rw [if_pos (by simpa using hn), if_neg (fun q => (List.mem_cons.1 q).elim hn hk)]
    · cases h
theorem fO : ∀ {ds : List aW} {l r : List Le}, b8 l ds = some r → r.Sublist l
  | [], l, r, h => by rw [b8] at h; cases h; exact .refl _
  | n :: ds, l, r, h => by
    rw [b8] at h
    split at h
    · exact (fO h).trans List.filter_sublist
    · cases h
theorem dropAll_e : ∀ {ds : List aW} {l l' : List Le}, l.map (·.e) = l'.map (·.e) → (b8 l ds).map (·.map (·.e)) = (b8 l' ds).map (·.map (·.e))
  | [], l, l', h => by rw [b8, b8]; exact congrArg some h
  | n :: ds, l, l', h => by
    rw [b8, b8, h]
    split
    · exact dropAll_e (by rw [fJ l (fun s => decide (s ≠ bg n)), fJ l' (fun s => decide (s ≠ bg n)), h])
    · rfl
def dl (v : Int) (full : Bool) (bs ver : Int) (nd : Nat) : Int := if ver ≤ v ∨ 2147483647 < ver then 9 else if full = true then (if bs ≠ 0 ∨ 0 < nd then 2 else 0) else if bs ≠ v then 9 else 0
def dP : List aW → Int
  | [] => 0
  | n :: r => if bi n ≠ 0 then bi n else dP r
theorem hK : ∀ {l : List aW}, dP l = 0 ↔ ∀ n ∈ l, bi n = 0
  | [] => by simp [dP]
  | d :: r => by
    rw [dP]
    by_cases h : bi d ≠ 0
    · rw [if_pos h]; simp [h]
    · rw [if_neg h, hK]
      have : bi d = 0 := by omega
      simp [this]
/-- The hosts that a push names. -/
def dq (put : List Le) (drop : List aW) : List aW := (put.map fun y : Le => bg y.e.host) ++ drop.map bg
def cy (put : List Le) (drop : List aW) : Int := if cR put ≠ 0 then cR put else if dP drop ≠ 0 then dP drop else if (dq put drop).Nodup then 0 else 6
/-- A table behind a push: the error, the entries. -/
def bv (v : Int) (l : List Le) (full : Bool) (bs ver : Int) (put : List Le) (drop : List aW) : Int × List Le :=
  if bY v l ≠ 0 then (bY v l, []) else if dl v full bs ver drop.length ≠ 0 then (dl v full bs ver drop.length, []) else if cy put drop ≠ 0 then (cy put drop, []) else
  match b8 (if full = true then [] else l) drop with
  | none => (5, [])
  | some r => if 256 < (di r put).length then (3, []) else (0, di r put)
structure ApplyOk (v : Int) (l : List Le) (full : Bool) (bs ver : Int) (put : List Le) (drop : List aW) (r : List Le) : Prop where
  tab : bY v l = 0
  ver1 : v < ver ∧ ver ≤ 2147483647
  full1 : full = true → bs = 0 ∧ drop = []
  base : full = false → bs = v
  ents : ∀ x ∈ put, cM x.e = 0
  names : ∀ n ∈ drop, bi n = 0
  dis : (dq put drop).Nodup
  mid : ∃ m, b8 (if full = true then [] else l) drop = some m ∧ r = di m put
  len : r.length ≤ 256
theorem form_zero {v : Int} {full : Bool} {bs ver : Int} {drop : List aW} : dl v full bs ver drop.length = 0 ↔ (v < ver ∧ ver ≤ 2147483647) ∧ (full = true → bs = 0 ∧ drop = []) ∧ (full = false → bs = v) := by
  unfold dl
  cases full
  · simp only [Bool.false_eq_true, if_false, false_imp_iff, true_imp_iff, true_and]
    constructor
    · intro h
      split at h
      · omega
      · split at h
        · omega
        · exact ⟨by omega, by omega⟩
    · rintro ⟨h1, h2⟩
      rw [if_neg (by omega), if_neg (fun q => q h2)]
  · simp only [if_true, true_imp_iff, Bool.true_eq_false, false_imp_iff, and_true]
    constructor
    · intro h
      split at h
      · omega
      · split at h
        · omega
        · rename_i h1 h2
          refine ⟨by omega, by omega, ?_⟩
          cases drop with
          | nil => rfl
          | cons a r => exact absurd (.inr (Nat.succ_pos _)) h2
    · rintro ⟨h1, h2, h3⟩
      subst h3
      rw [if_neg (by omega), if_neg (fun q => q.elim (fun q => q h2) (fun q => absurd q (Nat.lt_irrefl 0)))]
theorem parts_zero {put : List Le} {drop : List aW} : cy put drop = 0 ↔ (∀ x ∈ put, cM x.e = 0) ∧ (∀ n ∈ drop, bi n = 0) ∧ (dq put drop).Nodup := by
  rw [← entsCk_zero, ← hK]
  unfold cy
  constructor
  · intro h
    split at h
    · omega
    · split at h
      · omega
      · split at h
        · rename_i h1 h2 h3; exact ⟨by omega, by omega, h3⟩
        · omega
  · rintro ⟨h1, h2, h3⟩
    rw [if_neg (fun q => q h1), if_neg (fun q => q h2), if_pos h3]
theorem ApplyOk.mid_tbe {v : Int} {l : List Le} {full : Bool} {bs ver : Int} {put : List Le} {drop : List aW} {r m : List Le} (h : ApplyOk v l full bs ver put drop r) (hm : b8 (if full = true then [] else l) drop = some m) : TbE (m.map (·.e)) := by
  refine TbE.sub ?_ ((fO hm).map (·.e))
  cases full
  · exact tab_tbe h.tab
  · exact fZ
theorem ApplyOk.hck {v : Int} {l : List Le} {full : Bool} {bs ver : Int} {put : List Le} {drop : List aW} {r : List Le} (h : ApplyOk v l full bs ver put drop r) : ∀ x ∈ put, bi x.e.host = 0 := fun x hx => fE (h.ents x hx)
theorem ApplyOk.pnd {v : Int} {l : List Le} {full : Bool} {bs ver : Int} {put : List Le} {drop : List aW} {r : List Le} (h : ApplyOk v l full bs ver put drop r) : (put.map fun y : Le => bg y.e.host).Nodup := (List.nodup_append.1 h.dis).1
/-- What is behind a push: what was put; what was there and not dropped. -/
theorem ApplyOk.look {v : Int} {l : List Le} {full : Bool} {bs ver : Int} {put : List Le} {drop : List aW} {r : List Le} (h : ApplyOk v l full bs ver put drop r) (key : aW) :
    bS (r.map (·.e)) key = (bS (put.map (·.e)) key).or (if full = true then none else if key ∈ drop.map bg then none else bS (l.map (·.e)) key) := by
  obtain ⟨m, hm, rfl⟩ := h.mid
  rw [e6 h.hck h.pnd (h.mid_tbe hm), g6 hm]
  cases full
  · rfl
  · show _ = (bS _ key).or none
    congr 1
    show (if _ then none else none) = none
    split <;> rfl
theorem hY : ∀ {p l : List Le} {y : Le}, y ∈ di l p → y ∈ l ∨ y ∈ p
  | [], _, _, h => .inl h
  | x :: p, l, y, h => by
    rcases hY (p := p) h with h | h
    · rcases gY h with rfl | h
      · exact .inr (.head _)
      · exact .inl h
    · exact .inr (.tail _ h)
theorem ApplyOk.mem {v : Int} {l : List Le} {full : Bool} {bs ver : Int} {put : List Le} {drop : List aW} {r : List Le} (h : ApplyOk v l full bs ver put drop r) {y : Le} (hy : y ∈ r) : y ∈ l ∨ y ∈ put := by
  obtain ⟨m, hm, rfl⟩ := h.mid
  refine (hY hy).imp (fun q => ?_) id
  have := (fO hm).subset q
  cases full
  · exact this
  · cases this
theorem putE_e17 (l : List Le) (x : Le) : (putE l x).map (·.e) = (putE ((l.map (·.e)).map fun e => ⟨e, none, 0, none, 0⟩) ⟨x.e, none, 0, none, 0⟩).map (·.e) := by
  have h : ∀ (l : List Le) (d : Bool), (fg x d l).map (·.e) = (fg ⟨x.e, none, 0, none, 0⟩ d ((l.map (·.e)).map fun e => ⟨e, none, 0, none, 0⟩)).map (·.e) := by
    intro l
    induction l with
    | nil => intro d; cases d <;> rfl
    | cons y r ih =>
      intro d
      simp only [List.map_cons, fg, List.map_append, ih]
      congr 1
      congr 1
      · split <;> rfl
      · split <;> rfl
  exact h l false
theorem putAll_e17 : ∀ {p p' l l' : List Le}, p.map (·.e) = p'.map (·.e) → l.map (·.e) = l'.map (·.e) → (di l p).map (·.e) = (di l' p').map (·.e)
  | [], [], _, _, _, h => h
  | [], _ :: _, _, _, h, _ => by cases h
  | _ :: _, [], _, _, h, _ => by cases h
  | x :: p, x' :: p', l, l', hp, h => by
    rw [List.map_cons, List.map_cons, List.cons.injEq] at hp
    exact putAll_e17 (p := p) (p' := p') hp.2 (by rw [putE_e17, putE_e17 l', h, hp.1])
theorem gR : ∀ {l l' : List Le}, l.map (·.e) = l'.map (·.e) → cR l = cR l'
  | [], [], _ => rfl
  | [], _ :: _, h => by cases h
  | _ :: _, [], h => by cases h
  | x :: r, y :: s, h => by
    rw [List.map_cons, List.map_cons, List.cons.injEq] at h
    rw [cR, cR, h.1, gR h.2]
theorem d5 (l : List Le) (i : Nat) : (l.getD i bQ).e = (l.map (·.e)).getD i en0 := by
  rw [List.getD_eq_getElem?_getD, List.getD_eq_getElem?_getD, List.getElem?_map]
  cases l[i]? <;> rfl
theorem f7 (v : Int) {l l' : List Le} (h : l.map (·.e) = l'.map (·.e)) : bY v l = bY v l' := by
  have h1 : l.length = l'.length := by have := congrArg List.length h; simpa using this
  have h2 : gz l ↔ gz l' := by
    unfold gz
    rw [h1]
    simp only [d5, h]
  unfold bY
  rw [h1, gR h]
  simp only [h2]
/-- The same entries, the same push: the same table. -/
theorem cN {v : Int} {l l' : List Le} {full : Bool} {bs ver : Int} {put put' : List Le} {drop : List aW} (hl : l.map (·.e) = l'.map (·.e)) (hp : put.map (·.e) = put'.map (·.e)) :
    (bv v l full bs ver put drop).1 = (bv v l' full bs ver put' drop).1 ∧ (bv v l full bs ver put drop).2.map (·.e) = (bv v l' full bs ver put' drop).2.map (·.e) := by
  have h1 : cy put drop = cy put' drop := by
    have : (put.map fun y : Le => bg y.e.host) = put'.map fun y : Le => bg y.e.host := by
      have := congrArg (List.map fun e : En => bg e.host) hp
      simpa [List.map_map, Function.comp_def] using this
    rw [cy, cy, dq, dq, gR hp, this]
  have h2 : (b8 (if full = true then [] else l) drop).map (·.map (·.e)) = (b8 (if full = true then [] else l') drop).map (·.map (·.e)) := dropAll_e (by cases full; exact hl; rfl)
  unfold bv
  rw [f7 v hl, h1]
  split
  · exact ⟨rfl, rfl⟩
  · split
    · exact ⟨rfl, rfl⟩
    · split
      · exact ⟨rfl, rfl⟩
      · cases hm : b8 (if full = true then [] else l) drop with
        | none =>
          cases hm' : b8 (if full = true then [] else l') drop with
          | none => exact ⟨rfl, rfl⟩
          | some m' => rw [hm, hm'] at h2; cases h2
        | some m =>
          cases hm' : b8 (if full = true then [] else l') drop with
          | none => rw [hm, hm'] at h2; cases h2
          | some m' =>
            rw [hm, hm'] at h2
            have h3 : m.map (·.e) = m'.map (·.e) := Option.some.inj h2
            have h4 := putAll_e17 hp h3
            have h5 : (di m put).length = (di m' put').length := by have := congrArg List.length h4; simpa using this
            show (if _ then _ else _ : Int × List Le).1 = (if _ then _ else _ : Int × List Le).1 ∧ (if _ then _ else _ : Int × List Le).2.map _ = (if _ then _ else _ : Int × List Le).2.map _
            rw [h5]
            split
            · exact ⟨rfl, rfl⟩
            · exact ⟨rfl, h4⟩
theorem look_perm {es fs : List En} (h : HostsOk es) (hp : fs.Perm es) (key : aW) : bS fs key = bS es key := find_perm17 hp fun a ha b hb h1 h2 => h.dis a ha b hb ((of_decide_eq_true h1).trans (of_decide_eq_true h2).symm)
theorem look_hosts {es fs : List En} (h : HostsOk es) (hs : ∀ e ∈ fs, e ∈ es) : HostsOk fs := ⟨fun e he => h.ck e (hs e he), fun e he f hf q => h.dis e (hs e he) f (hs f hf) q⟩
theorem nd_len17 {α : Type} [DecidableEq α] : ∀ {xs ys : List α}, xs.Nodup → (∀ a ∈ xs, a ∈ ys) → xs.length ≤ ys.length
  | [], _, _, _ => Nat.zero_le _
  | x :: xs, ys, hn, h => by
    rw [List.nodup_cons] at hn
    have h1 := nd_len17 (xs := xs) (ys := ys.erase x) hn.2 (fun a ha => (List.mem_erase_of_ne (fun e => hn.1 (by rw [← e]; exact ha))).2 (h a (.tail _ ha)))
    have h2 := List.length_erase_of_mem (h x (.head _))
    have h3 := List.length_pos_of_mem (h x (.head _))
    simp only [List.length_cons]; omega
theorem eh {l k : List Le} (h : l.map (·.e) = k.map (·.e)) : l.length = k.length := by have := congrArg List.length h; simpa using this
/-- Two rows in order, gone through side by side. -/
def gT : Nat → List Le → List Le → List (Option Le × Option Le)
  | 0, _, _ => []
  | _ + 1, [], [] => []
  | n + 1, x :: a, [] => (some x, none) :: gT n a []
  | n + 1, [], y :: b => (none, some y) :: gT n [] b
  | n + 1, x :: a, y :: b => if bP x.e.host y.e.host < 0 then (some x, none) :: gT n a (y :: b) else if 0 < bP x.e.host y.e.host then (none, some y) :: gT n (x :: a) b else (some x, some y) :: gT n a b
/-- .. by places. -/
def mrg : Nat → Nat → List Le → Nat → List Le → List (Option Nat × Option Nat)
  | 0, _, _, _, _ => []
  | _ + 1, _, [], _, [] => []
  | n + 1, i, _ :: a, j, [] => (some i, none) :: mrg n (i + 1) a j []
  | n + 1, i, [], j, _ :: b => (none, some j) :: mrg n i [] (j + 1) b
  | n + 1, i, x :: a, j, y :: b => if bP x.e.host y.e.host < 0 then (some i, none) :: mrg n (i + 1) a j (y :: b) else if 0 < bP x.e.host y.e.host then (none, some j) :: mrg n i (x :: a) (j + 1) b else (some i, some j) :: mrg n (i + 1) a (j + 1) b
theorem fp : ∀ (n m : Nat) (i : Nat) (a : List Le) (j : Nat) (b : List Le), a.length + b.length ≤ n → a.length + b.length ≤ m → mrg n i a j b = mrg m i a j b
  | 0, 0, _, _, _, _, _, _ => rfl
  | 0, m + 1, i, a, j, b, h, _ => by
    have h1 : a = [] := List.length_eq_zero_iff.1 (by omega)
    have h2 : b = [] := List.length_eq_zero_iff.1 (by omega)
    subst h1 h2; rfl
  | n + 1, 0, i, a, j, b, _, h => by
    have h1 : a = [] := List.length_eq_zero_iff.1 (by omega)
    have h2 : b = [] := List.length_eq_zero_iff.1 (by omega)
    subst h1 h2; rfl
  | n + 1, m + 1, i, a, j, b, h1, h2 => by
    cases a with
    | nil =>
      cases b with
      | nil => rfl
      | cons y b =>
        rw [mrg, mrg, fp n m i [] (j + 1) b (by simp at h1 ⊢; omega) (by simp at h2 ⊢; omega)]
    | cons x a =>
      cases b with
      | nil => rw [mrg, mrg, fp n m (i + 1) a j [] (by simp at h1 ⊢; omega) (by simp at h2 ⊢; omega)]
      | cons y b =>
        rw [mrg, mrg, fp n m (i + 1) a j (y :: b) (by simp at h1 ⊢; omega) (by simp at h2 ⊢; omega), fp n m i (x :: a) (j + 1) b (by simp at h1 ⊢; omega) (by simp at h2 ⊢; omega), fp n m (i + 1) a (j + 1) b (by simp at h1 ⊢; omega) (by simp at h2 ⊢; omega)]
/-- What is yet to come, from two places on. -/
def cV (l p : List Le) (i j : Nat) : List (Option Nat × Option Nat) := mrg ((l.length - i) + (p.length - j)) i (l.drop i) j (p.drop j)
theorem dI {l p : List Le} {i j : Nat} (hi : l.length ≤ i) (hj : p.length ≤ j) : cV l p i j = [] := by
  rw [cV, show (l.length - i) + (p.length - j) = 0 by omega, mrg]
theorem c6 {l p : List Le} {i j : Nat} (hi : i < l.length) (h : p.length ≤ j ∨ bP (l.getD i bQ).e.host (p.getD j bQ).e.host < 0) : cV l p i j = (some i, none) :: cV l p (i + 1) j := by
  rw [cV, cV, show (l.length - i) + (p.length - j) = ((l.length - (i + 1)) + (p.length - j)) + 1 by omega, b4 l bQ i hi]
  by_cases hj : p.length ≤ j
  · rw [List.drop_of_length_le hj, mrg]
  · rw [b4 p bQ j (by omega), mrg, if_pos (h.resolve_left hj)]
theorem c5 {l p : List Le} {i j : Nat} (hj : j < p.length) (h : l.length ≤ i ∨ 0 < bP (l.getD i bQ).e.host (p.getD j bQ).e.host) : cV l p i j = (none, some j) :: cV l p i (j + 1) := by
  rw [cV, cV, show (l.length - i) + (p.length - j) = ((l.length - i) + (p.length - (j + 1))) + 1 by omega, b4 p bQ j hj]
  by_cases hi : l.length ≤ i
  · rw [List.drop_of_length_le hi, mrg]
  · have := h.resolve_left hi
    rw [b4 l bQ i (by omega), mrg, if_neg (by omega), if_pos this]
theorem d9 {l p : List Le} {i j : Nat} (hi : i < l.length) (hj : j < p.length) (h : bP (l.getD i bQ).e.host (p.getD j bQ).e.host = 0) : cV l p i j = (some i, some j) :: cV l p (i + 1) (j + 1) := by
  rw [cV, cV, show (l.length - i) + (p.length - j) = ((l.length - (i + 1)) + (p.length - j)) + 1 by omega, b4 l bQ i hi, b4 p bQ j hj, mrg, if_neg (by omega), if_neg (by omega)]
  congr 1
  exact fp _ _ _ _ _ _ (by simp; omega) (by simp)
def mrgG (l p : List Le) (q : Option Nat × Option Nat) : Option Le × Option Le := (q.1.map (l.getD · bQ), q.2.map (p.getD · bQ))
theorem mrg_V (l p : List Le) : ∀ (n i j : Nat), (mrg n i (l.drop i) j (p.drop j)).map (mrgG l p) = gT n (l.drop i) (p.drop j)
  | 0, _, _ => rfl
  | n + 1, i, j => by
    by_cases hi : i < l.length
    · rw [b4 l bQ i hi]
      by_cases hj : j < p.length
      · rw [b4 p bQ j hj, mrg, gT]
        have e1 := mrg_V l p n (i + 1) j
        have e2 := mrg_V l p n i (j + 1)
        have e3 := mrg_V l p n (i + 1) (j + 1)
        rw [b4 p bQ j hj] at e1
        rw [b4 l bQ i hi] at e2
        split
        · rw [List.map_cons, e1]; rfl
        · split
          · rw [List.map_cons, e2]; rfl
          · rw [List.map_cons, e3]; rfl
      · have e1 := mrg_V l p n (i + 1) j
        have ep : p.drop j = [] := List.drop_of_length_le (by omega)
        rw [ep] at e1 ⊢
        rw [mrg, gT, List.map_cons, e1]; rfl
    · have e2 := mrg_V l p n i (j + 1)
      have el : l.drop i = [] := List.drop_of_length_le (by omega)
      rw [el] at e2 ⊢
      by_cases hj : j < p.length
      · rw [b4 p bQ j hj, mrg, gT, List.map_cons, e2]; rfl
      · rw [List.drop_of_length_le (by omega), mrg, gT]; rfl
def outV (q : Option Le × Option Le) : Le := (q.2.or q.1).getD bQ
def eS (n : Nat) (a b : List Le) : List Le := (gT n a b).map outV
theorem dL : ∀ (n : Nat) {a b : List Le} {z : Le}, z ∈ eS n a b → z ∈ a ∨ z ∈ b
  | 0, _, _, _, h => by cases h
  | n + 1, [], [], _, h => by cases h
  | n + 1, x :: a, [], z, h => by
    rcases List.mem_cons.1 (show z ∈ x :: eS n a [] from h) with rfl | h
    · exact .inl (.head _)
    · exact (dL n h).imp (.tail _) id
  | n + 1, [], y :: b, z, h => by
    rcases List.mem_cons.1 (show z ∈ y :: eS n [] b from h) with rfl | h
    · exact .inr (.head _)
    · exact (dL n h).imp id (.tail _)
  | n + 1, x :: a, y :: b, z, h => by
    rw [eS, gT] at h
    split at h
    · rcases List.mem_cons.1 (show z ∈ x :: eS n a (y :: b) from h) with rfl | h
      · exact .inl (.head _)
      · exact (dL n h).imp (.tail _) id
    · split at h
      · rcases List.mem_cons.1 (show z ∈ y :: eS n (x :: a) b from h) with rfl | h
        · exact .inr (.head _)
        · exact (dL n h).imp id (.tail _)
      · rcases List.mem_cons.1 (show z ∈ y :: eS n a b from h) with rfl | h
        · exact .inr (.head _)
        · exact (dL n h).imp (.tail _) (.tail _)
theorem eu {x : Le} {a : List Le} (h : TbE ((x :: a).map (·.e))) : bi x.e.host = 0 ∧ (∀ z ∈ a, bP x.e.host z.e.host < 0) ∧ TbE (a.map (·.e)) := by
  obtain ⟨h1, h2⟩ := List.pairwise_cons.1 h.up
  exact ⟨h.ck _ (.head _), fun z hz => h1 _ (List.mem_map.2 ⟨z, hz, rfl⟩), fun e he => h.ck e (.tail _ he), h2⟩
theorem tbe_of {x : Le} {a : List Le} (h1 : bi x.e.host = 0) (h2 : ∀ z ∈ a, bP x.e.host z.e.host < 0) (h3 : TbE (a.map (·.e))) : TbE ((x :: a).map (·.e)) :=
  ⟨fun e he => by
    rcases List.mem_cons.1 (show e ∈ x.e :: a.map (·.e) from he) with rfl | he
    · exact h1
    · exact h3.ck e he, List.pairwise_cons.2 ⟨fun e he => by
      obtain ⟨z, hz, rfl⟩ := List.mem_map.1 he
      exact h2 z hz, h3.up⟩⟩
theorem ff : ∀ (n : Nat) {a b : List Le}, TbE (a.map (·.e)) → TbE (b.map (·.e)) → TbE ((eS n a b).map (·.e))
  | 0, _, _, _, _ => fZ
  | n + 1, [], [], _, _ => fZ
  | n + 1, x :: a, [], ha, hb => by
    obtain ⟨h1, h2, h3⟩ := eu ha
    exact tbe_of (a := eS n a []) h1 (fun z hz => (dL n hz).elim (h2 z) nofun) (ff n h3 hb)
  | n + 1, [], y :: b, ha, hb => by
    obtain ⟨h1, h2, h3⟩ := eu hb
    exact tbe_of (a := eS n [] b) h1 (fun z hz => (dL n hz).elim nofun (h2 z)) (ff n ha h3)
  | n + 1, x :: a, y :: b, ha, hb => by
    obtain ⟨h1, h2, h3⟩ := eu ha
    obtain ⟨k1, k2, k3⟩ := eu hb
    rw [eS, gT]
    split
    · rename_i hc
      exact tbe_of (a := eS n a (y :: b)) h1 (fun z hz => (dL n hz).elim (h2 z) fun q => by
        rcases List.mem_cons.1 q with rfl | q
        · exact hc
        · exact c9 hc (k2 z q)) (ff n h3 hb)
    · split
      · rename_i hc
        have hc2 : bP y.e.host x.e.host < 0 := by rw [dg x.e.host]; omega
        exact tbe_of (a := eS n (x :: a) b) k1 (fun z hz => (dL n hz).elim (fun q => by
          rcases List.mem_cons.1 q with rfl | q
          · exact hc2
          · exact c9 hc2 (h2 z q)) (k2 z)) (ff n ha k3)
      · rename_i c1 c2
        have hc : bP x.e.host y.e.host = 0 := by omega
        have hf := (dm h1 k1).1 hc
        exact tbe_of (a := eS n a b) k1 (fun z hz => (dL n hz).elim (fun q => by
          have e9 := gN k1 h1 hf.symm z.e.host
          have e8 := h2 z q
          show bP y.e.host z.e.host < 0
          rw [e9]; exact e8) (k2 z)) (ff n h3 k3)
theorem look_lt {x : Le} {b : List Le} (hx : bi x.e.host = 0) (hb : TbE (b.map (·.e))) (h : ∀ z ∈ b, bP x.e.host z.e.host < 0) : bS (b.map (·.e)) (bg x.e.host) = none := look_none.2 fun e he q => by
  obtain ⟨z, hz, rfl⟩ := List.mem_map.1 he
  exact cmpN_ne hx (hb.ck _ he) (h z hz) q.symm
theorem lt_all {x y : Le} {b : List Le} (hc : bP x.e.host y.e.host < 0) (h : ∀ z ∈ b, bP y.e.host z.e.host < 0) : ∀ z ∈ y :: b, bP x.e.host z.e.host < 0 := fun z hz => by
  rcases List.mem_cons.1 hz with rfl | hz
  · exact hc
  · exact c9 hc (h z hz)
theorem eK {key : aW} : ∀ (n : Nat) {a b : List Le}, a.length + b.length ≤ n → TbE (a.map (·.e)) → TbE (b.map (·.e)) → bS ((eS n a b).map (·.e)) key = (bS (b.map (·.e)) key).or (bS (a.map (·.e)) key)
  | 0, a, b, h, _, _ => by
    have h1 : a = [] := List.length_eq_zero_iff.1 (by omega)
    have h2 : b = [] := List.length_eq_zero_iff.1 (by omega)
    subst h1 h2; rfl
  | n + 1, [], [], _, _, _ => rfl
  | n + 1, x :: a, [], h, ha, hb => by
    obtain ⟨h1, h2, h3⟩ := eu ha
    show bS ((x :: eS n a []).map (·.e)) key = _
    rw [List.map_cons, cv, eK n (by simp at h ⊢; omega) h3 hb, List.map_cons, cv]; rfl
  | n + 1, [], y :: b, h, ha, hb => by
    obtain ⟨h1, h2, h3⟩ := eu hb
    show bS ((y :: eS n [] b).map (·.e)) key = _
    rw [List.map_cons, cv, eK n (by simp at h ⊢; omega) ha h3, List.map_cons, cv]
    split <;> rfl
  | n + 1, x :: a, y :: b, h, ha, hb => by
    obtain ⟨h1, h2, h3⟩ := eu ha
    obtain ⟨k1, k2, k3⟩ := eu hb
    rw [eS, gT]
    split
    · rename_i hc
      show bS ((x :: eS n a (y :: b)).map (·.e)) key = _
      rw [List.map_cons, cv, eK n (by simp at h ⊢; omega) h3 hb, List.map_cons (f := (·.e)) (a := x), cv]
      by_cases hk : bg x.e.host = key
      · rw [if_pos hk, if_pos hk, ← hk, look_lt h1 hb (lt_all hc k2)]; rfl
      · rw [if_neg hk, if_neg hk]
    · split
      · rename_i hc
        have hc2 : bP y.e.host x.e.host < 0 := by rw [dg x.e.host]; omega
        show bS ((y :: eS n (x :: a) b).map (·.e)) key = _
        rw [List.map_cons, cv, eK n (by simp at h ⊢; omega) ha k3, List.map_cons (f := (·.e)) (a := y), cv]
        split <;> rfl
      · rename_i c1 c2
        have hc : bP x.e.host y.e.host = 0 := by omega
        have hf := (dm h1 k1).1 hc
        show bS ((y :: eS n a b).map (·.e)) key = _
        rw [List.map_cons, cv, eK n (by simp at h ⊢; omega) h3 k3, List.map_cons, cv, List.map_cons, cv, hf]
        split <;> rfl
theorem sorted_tbe {put ys : List Le} (hp : ys.Perm put) (hs : ys.Pairwise fun a b => ¬ bP b.e.host a.e.host < 0) (hck : ∀ x ∈ put, bi x.e.host = 0) (hnd : (put.map fun y : Le => bg y.e.host).Nodup) : TbE (ys.map (·.e)) := ⟨fun e he => by
  obtain ⟨z, hz, rfl⟩ := List.mem_map.1 he
  exact hck z (hp.mem_iff.1 hz), by
  rw [List.pairwise_map]
  have hn := (hp.map fun y : Le => bg y.e.host).nodup_iff.2 hnd
  rw [List.Nodup, List.pairwise_map] at hn
  rw [List.pairwise_iff_getElem] at hs hn ⊢
  intro i j hi hj hij
  have q1 := hs i j hi hj hij
  have q2 := hn i j hi hj hij
  have c1 := hck _ (hp.mem_iff.1 (List.getElem_mem hi))
  have c2 := hck _ (hp.mem_iff.1 (List.getElem_mem hj))
  have q3 : bP ys[i].e.host ys[j].e.host ≠ 0 := fun q => q2 ((dm c1 c2).1 q)
  have q4 := dg ys[i].e.host ys[j].e.host
  omega⟩
/-- The program's way: sorted, and gone through side by side. -/
theorem merge_put {m put ys : List Le} (tm : TbE (m.map (·.e))) (hp : ys.Perm put) (hs : ys.Pairwise fun a b => ¬ bP b.e.host a.e.host < 0) (hck : ∀ x ∈ put, bi x.e.host = 0) (hnd : (put.map fun y : Le => bg y.e.host).Nodup) :
    ((cV m ys 0 0).map fun q => outV (mrgG m ys q)).map (·.e) = (di m put).map (·.e) := by
  have ty := sorted_tbe hp hs hck hnd
  have e : ((cV m ys 0 0).map fun q => outV (mrgG m ys q)) = eS (m.length + ys.length) m ys := by
    rw [eS, ← List.drop_zero (l := m), ← List.drop_zero (l := ys), ← mrg_V m ys, List.map_map]; rfl
  rw [e]
  have hP : HostsOk (put.map (·.e)) := look_hosts ty.hosts fun e he => by
    obtain ⟨z, hz, rfl⟩ := List.mem_map.1 he
    exact List.mem_map.2 ⟨z, hp.mem_iff.2 hz, rfl⟩
  refine tbe_eq (ff _ tm ty) (gC hck tm) fun key => ?_
  rw [eK _ (Nat.le_refl _) tm ty, e6 hck hnd tm, look_perm hP (hp.map _)]
end Go.Proofs.Ytnpdgmoeoidppaa
