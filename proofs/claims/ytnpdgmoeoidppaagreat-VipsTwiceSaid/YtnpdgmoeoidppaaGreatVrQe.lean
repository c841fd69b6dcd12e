import Derived.Test.YtnpdgmoeoidppaaGreatVgQe
import Derived.Test.YtnpdgmoeoidppaaGreatVkQe
import Derived.Test.YtnpdgmoeoidppaaGreatVnQe
/- vips: what fails goes on failing, in plain words -/
namespace Go.Proofs.YtnpdgmoeoidppaaGreat
open Go.RowKit Go.Shelf
set_option linter.unusedVariables false
set_option linter.unusedSimpArgs false

theorem probe_all {n : aK} {size : Nat} {i : Int} (h : 0 ≤ i ∧ i < size) : i ∈ c7 n size := by
  refine List.mem_map.2 ⟨((i - dF n size) % size).toNat, ?_, ?_⟩
  · have h0 := Int.emod_nonneg (i - dF n size) (show (size : Int) ≠ 0 by omega)
    have h1 := Int.emod_lt_of_pos (i - dF n size) (show (0 : Int) < size by omega)
    rw [List.mem_range]; omega
  · have h0 := Int.emod_nonneg (i - dF n size) (show (size : Int) ≠ 0 by omega)
    rw [atH, if_neg (by omega), Int.toNat_of_nonneg h0, Int.add_emod, Int.emod_emod_of_dvd _ (Int.dvd_refl _), ← Int.add_emod]
    rw [show dF n size + (i - dF n size) = i by omega]
    exact Int.emod_eq_of_lt h.1 h.2
/-- No place is free, or the room is out: whatever the name. -/
def gv (v : Vp) (hm : Hm) : Prop := v.room - hm.length = 0 ∨ ∀ i : Int, 0 ≤ i → i < bE v.rg → dw v.res (bO hm) (atR v.rg i).1 = false
theorem probe_none {v : Vp} {hm : Hm} {n : aK} : bq v (bO hm) n = none ↔ ∀ i : Int, 0 ≤ i → i < bE v.rg → dw v.res (bO hm) (atR v.rg i).1 = false := by
  rw [bq, List.find?_eq_none]
  constructor
  · intro h i h1 h2
    simpa using h i (probe_all ⟨h1, h2⟩)
  · intro h i hi
    obtain ⟨h1, h2⟩ := fq hi
    rw [h i h1 h2]; decide
theorem give_fail {v : Vp} {hm : Hm} {n : aK} (h : br n = true) (hf : gv v hm) : (bl v hm (bO hm) n).2.1 = hm ∧ ((bl v hm (bO hm) n).1.2 = 0 ↔ (cD hm (aY n)).isSome = true) := by
  by_cases h2 : (cD hm (aY n)).isSome = true
  · rw [cr h h2]; exact ⟨rfl, fun _ => h2, fun _ => rfl⟩
  · have h2 : (cD hm (aY n)).isSome = false := by simpa using h2
    by_cases h3 : v.room - hm.length = 0
    · rw [cn h h2 h3]; exact ⟨rfl, fun e => absurd (show (10 : Int) = 0 from e) (by decide), fun e => by rw [h2] at e; cases e⟩
    · rw [bG h h2 h3 (probe_none.2 (hf.resolve_left h3))]
      exact ⟨rfl, fun e => absurd (show (10 : Int) = 0 from e) (by decide), fun e => by rw [h2] at e; cases e⟩
theorem fail_of {v : Vp} {hm : Hm} {n : aK} (h : br n = true) (he : (bl v hm (bO hm) n).1.2 ≠ 0) : gv v hm := by
  by_cases h2 : (cD hm (aY n)).isSome = true
  · rw [cr h h2] at he; exact absurd rfl he
  · have h2 : (cD hm (aY n)).isSome = false := by simpa using h2
    by_cases h3 : v.room - hm.length = 0
    · exact .inl h3
    · cases hg : bq v (bO hm) n with
      | none => exact .inr (probe_none.1 hg)
      | some i => rw [bG h h2 h3 hg] at he; exact absurd rfl he

theorem lkp_mem {α β : Type} [DecidableEq α] {m : List (α × β)} {a : α} : (cD m a).isSome = true ↔ a ∈ m.map fun p => p.1 := by
  have h := lkp_none_iff (m := m) (a := a)
  cases hl : cD m a with
  | none => rw [hl] at h; simp only [Option.isSome_none, Bool.false_eq_true, false_iff]; exact h.1 rfl
  | some x => rw [hl] at h; simp only [Option.isSome_some, true_iff]; exact Decidable.not_not.1 fun e => by cases h.2 e
def hasK (hm : Hm) (n : aK) : Prop := aY n ∈ hm.map fun p => p.1
/-- What a name that is given leaves: the list as it was, or one more. -/
theorem fL {v : Vp} {hm : Hm} {n : aK} (h : br n = true) : ((bl v hm (bO hm) n).2.1 = hm ∧ ((bl v hm (bO hm) n).1.2 = 0 → hasK hm n)) ∨ (∃ i : Int, 0 ≤ i ∧ i < bE v.rg ∧ dw v.res (bO hm) (atR v.rg i).1 = true ∧ ¬ hasK hm n ∧ (bl v hm (bO hm) n).1 = ((atR v.rg i).1, 0) ∧ (bl v hm (bO hm) n).2.1 = hm ++ [(aY n, ⟨n, (atR v.rg i).1⟩)]) := by
  by_cases h2 : (cD hm (aY n)).isSome = true
  · rw [cr h h2]; exact .inl ⟨rfl, fun _ => lkp_mem.1 h2⟩
  · have h3 : (cD hm (aY n)).isSome = false := by simpa using h2
    by_cases h4 : v.room - hm.length = 0
    · rw [cn h h3 h4]; exact .inl ⟨rfl, fun e => absurd (show (10 : Int) = 0 from e) (by decide)⟩
    · cases hg : bq v (bO hm) n with
      | none => rw [bG h h3 h4 hg]; exact .inl ⟨rfl, fun e => absurd (show (10 : Int) = 0 from e) (by decide)⟩
      | some i =>
        rw [bG h h3 h4 hg]
        have hi := fq (List.mem_of_find?_eq_some hg)
        have hf : dw v.res (bO hm) (atR v.rg i).1 = true := by
          have := List.find?_some hg
          exact this
        exact .inr ⟨i, hi.1, hi.2, hf, fun e => h2 (lkp_mem.2 e), rfl, rfl⟩
theorem give_not {v : Vp} {hm : Hm} {n : aK} (h : br n = true) (hf : ¬ gv v hm) : (bl v hm (bO hm) n).1.2 = 0 := Decidable.not_not.1 fun e => hf (fail_of h e)
def fZ (hm : Hm) (l : List aK) (n : aK) : List aK := if (cD hm (aY n)).isSome = false ∧ aY n ∉ l.map aY then l ++ [n] else l
def lostL (hm : Hm) (l : List aK) (hosts : List aK) : List aK := hosts.foldl (fZ hm) l
theorem keepF_fail {v : Vp} {hm : Hm} {n : aK} {l : List aK} (h : br n = true) (hf : gv v hm) : dM v (hm, l) n = (hm, fZ hm l n) := by
  obtain ⟨h1, h2⟩ := give_fail h hf
  unfold dM fZ
  refine Prod.ext h1 ?_
  by_cases e : (cD hm (aY n)).isSome = true
  · show (if _ then _ else _) = (if _ then _ else _)
    rw [if_neg (fun q => q.1 (h2.2 e)), if_neg (fun q => by rw [e] at q; cases q.1)]
  · have e2 : (cD hm (aY n)).isSome = false := by simpa using e
    have e3 : (bl v hm (bO hm) n).1.2 ≠ 0 := fun q => e (h2.1 q)
    show (if _ then _ else _) = (if _ then _ else _)
    by_cases e4 : aY n ∉ l.map aY
    · rw [if_pos ⟨e3, e4⟩, if_pos ⟨e2, e4⟩]
    · rw [if_neg (fun q => e4 q.2), if_neg (fun q => e4 q.2)]
theorem keepF_had {v : Vp} {hm : Hm} {n : aK} {l : List aK} (h : br n = true) (hk : hasK hm n) : dM v (hm, l) n = (hm, l) := by
  have h2 := lkp_mem.2 hk
  unfold dM
  dsimp only
  rw [cr h h2]
  refine Prod.ext rfl ?_
  dsimp only
  rw [if_neg (fun q => q.1 rfl)]
theorem lostF_had {hm : Hm} {n : aK} {l : List aK} (hk : hasK hm n) : fZ hm l n = l := by rw [fZ, if_neg]; rw [lkp_mem.2 hk]; exact fun q => nomatch q.1
theorem ey {hm : Hm} : ∀ {hosts l : List aK}, (∀ n ∈ hosts, hasK hm n) → lostL hm l hosts = l
  | [], _, _ => rfl
  | n :: t, l, h => by
    show lostL hm (fZ hm l n) t = l
    rw [lostF_had (h n (.head _)), ey fun x hx => h x (.tail _ hx)]
theorem keepL_fail {v : Vp} {hm : Hm} (hf : gv v hm) : ∀ {hosts l : List aK}, (∀ n ∈ hosts, br n = true) → hosts.foldl (dM v) (hm, l) = (hm, lostL hm l hosts)
  | [], _, _ => rfl
  | n :: t, l, h => by
    rw [List.foldl_cons, keepF_fail (h n (.head _)) hf, keepL_fail hf fun x hx => h x (.tail _ hx)]; rfl
theorem keepL_had {v : Vp} {hm : Hm} : ∀ {hosts l : List aK}, (∀ n ∈ hosts, br n = true) → (∀ n ∈ hosts, hasK hm n) → hosts.foldl (dM v) (hm, l) = (hm, l)
  | [], _, _, _ => rfl
  | n :: t, l, h, h2 => by
    rw [List.foldl_cons, keepF_had (h n (.head _)) (h2 n (.head _)), keepL_had (fun x hx => h x (.tail _ hx)) fun x hx => h2 x (.tail _ hx)]
structure Kept (v : Vp) (hm : Hm) (hosts : List aK) (r : Hm × List aK) : Prop where
  lost : r.2 = lostL r.1 [] hosts
  full : gv v r.1 ∨ ∀ n ∈ hosts, hasK r.1 n
  more : ∃ m, r.1 = hm ++ m
theorem d4 {v : Vp} : ∀ {hosts pre : List aK} {hm : Hm} {l : List aK}, (∀ n ∈ hosts, br n = true) → l = lostL hm [] pre → (gv v hm ∨ ∀ n ∈ pre, hasK hm n) → Kept v hm (pre ++ hosts) (hosts.foldl (dM v) (hm, l))
  | [], pre, hm, l, _, hl, hf => by rw [List.append_nil]; exact ⟨hl, hf, [], by simp⟩
  | n :: t, pre, hm, l, h, hl, hf => by
    have hn := h n (.head _)
    have ht : ∀ x ∈ t, br x = true := fun x hx => h x (.tail _ hx)
    rw [List.foldl_cons, show pre ++ n :: t = (pre ++ [n]) ++ t by simp]
    by_cases hF : gv v hm
    · rw [keepF_fail hn hF]
      refine d4 ht ?_ (.inl hF)
      rw [hl, lostL, lostL, List.foldl_append]; rfl
    · have hp := hf.resolve_left hF
      have h0 := give_not hn hF
      have hl0 : l = [] := by rw [hl, ey hp]
      have hk : dM v (hm, l) n = ((bl v hm (bO hm) n).2.1, l) := Prod.ext rfl (if_neg (fun q : _ ≠ _ ∧ _ => q.1 h0))
      rw [hk]
      rcases fL (v := v) (hm := hm) hn with ⟨g1, g2⟩ | ⟨i, _, _, _, _, _, g1⟩
      · rw [g1]
        have hall : ∀ x ∈ pre ++ [n], hasK hm x := fun x hx => (List.mem_append.1 hx).elim (hp x) (fun e => by rw [List.mem_singleton.1 e]; exact g2 h0)
        exact d4 ht (by rw [ey hall]; exact hl0) (.inr hall)
      · rw [g1]
        have hall : ∀ x ∈ pre ++ [n], hasK (hm ++ [(aY n, ⟨n, (atR v.rg i).1⟩)]) x := fun x hx => by
          unfold hasK
          rw [List.map_append, List.mem_append]
          exact (List.mem_append.1 hx).elim (fun e => .inl (hp x e)) (fun e => by rw [List.mem_singleton.1 e]; exact .inr (.head _))
        obtain ⟨q1, q2, m, q3⟩ := d4 (v := v) (pre := pre ++ [n]) (hm := hm ++ [(aY n, ⟨n, (atR v.rg i).1⟩)]) (l := l) ht (by rw [ey hall]; exact hl0) (.inr hall)
        exact ⟨q1, q2, _, by rw [q3, List.append_assoc]⟩
theorem keepG_keys {v : Vp} : ∀ {hosts : List aK} {hm : Hm} {l : List aK}, (∀ n ∈ hosts, br n = true) → ∀ k ∈ (hosts.foldl (dM v) (hm, l)).1.map (fun p => p.1), k ∈ hm.map (fun p => p.1) ∨ k ∈ hosts.map aY
  | [], _, _, _, k, hk => .inl hk
  | n :: t, hm, l, h, k, hk => by
    rw [List.foldl_cons] at hk
    have hn := h n (.head _)
    rcases keepG_keys (fun x hx => h x (.tail _ hx)) k hk with h1 | h1
    · have h1 : k ∈ (bl v hm (bO hm) n).2.1.map fun p => p.1 := h1
      rcases fL (v := v) (hm := hm) hn with ⟨g1, _⟩ | ⟨i, _, _, _, _, _, g1⟩
      · rw [g1] at h1; exact .inl h1
      · rw [g1, List.map_append, List.mem_append] at h1
        exact h1.elim .inl (fun e => .inr (by rw [List.map_cons, List.map_nil, List.mem_singleton] at e; rw [e]; exact .head _))
    · exact .inr (.tail _ h1)
theorem stay_self {hm : Hm} {hosts : List aK} (h : ∀ k ∈ hm.map (fun p => p.1), k ∈ hosts.map aY) : cT hm hosts = hm := by
  rw [cT, List.filter_eq_self]
  exact fun p hp => decide_eq_true (h _ (List.mem_map.2 ⟨p, hp, rfl⟩))
theorem stay_keys {hm : Hm} {hosts : List aK} : ∀ k ∈ (cT hm hosts).map (fun p => p.1), k ∈ hosts.map aY := fun k hk => by
  obtain ⟨p, hp, rfl⟩ := List.mem_map.1 hk
  exact of_decide_eq_true (List.mem_filter.1 hp).2
theorem fg {hosts : List aK} (h : ¬ hosts.all br = false) : ∀ n ∈ hosts, br n = true := List.all_eq_true.1 (by simpa using h)
theorem keep_kept {v : Vp} {hm : Hm} {hosts : List aK} (h : ¬ hosts.all br = false) : Kept v (cT hm hosts) hosts ((bJ v hm hosts).2, (bJ v hm hosts).1.1) ∧ (bJ v hm hosts).1.2 = 0 ∧ ∀ k ∈ (bJ v hm hosts).2.map (fun p => p.1), k ∈ hosts.map aY := by
  have e : bJ v hm hosts = (((di v (cT hm hosts) hosts).2, 0), (di v (cT hm hosts) hosts).1) := if_neg h
  rw [e]
  exact ⟨d4 (pre := []) (fg h) rfl (.inr nofun), rfl, fun k hk => (keepG_keys (fg h) k hk).elim (stay_keys k) id⟩
/-- A push twice changes nothing. -/
theorem keep_twice (v : Vp) (hm : Hm) (hosts : List aK) : bJ v (bJ v hm hosts).2 hosts = bJ v hm hosts := by
  by_cases h : hosts.all br = false
  · rw [show bJ v hm hosts = (([], 2), hm) from if_pos h]; exact if_pos h
  · obtain ⟨⟨k1, k2, _⟩, k4, k5⟩ := keep_kept (v := v) (hm := hm) h
    dsimp only at k1 k2
    rw [show bJ v (bJ v hm hosts).2 hosts = (((di v (cT (bJ v hm hosts).2 hosts) hosts).2, 0), (di v (cT (bJ v hm hosts).2 hosts) hosts).1) from if_neg h, stay_self k5]
    have e : di v (bJ v hm hosts).2 hosts = ((bJ v hm hosts).2, (bJ v hm hosts).1.1) := by
      rw [k1]
      rcases k2 with k2 | k2
      · exact keepL_fail k2 (fg h)
      · rw [ey k2]; exact keepL_had (fg h) k2
    rw [e, ← k4]

theorem perm_sorted {α : Type} {R : α → α → Prop} (hR : ∀ a b, R a b → R b a → a = b) : ∀ {xs ys : List α}, xs.Perm ys → xs.Pairwise R → ys.Pairwise R → xs = ys
  | [], ys, h, _, _ => (List.nil_perm.1 h).symm
  | x :: xs, [], h, _, _ => absurd h.length_eq (by simp)
  | x :: xs, y :: ys, h, h1, h2 => by
    have e : x = y := by
      rcases List.mem_cons.1 (h.mem_iff.1 (List.mem_cons_self : x ∈ x :: xs)) with e | hx
      · exact e
      · rcases List.mem_cons.1 (h.mem_iff.2 (List.mem_cons_self : y ∈ y :: ys)) with e | hy
        · exact e.symm
        · exact hR _ _ ((List.pairwise_cons.1 h1).1 _ hy) ((List.pairwise_cons.1 h2).1 _ hx)
    subst e
    rw [perm_sorted hR (List.Perm.cons_inv h) (List.pairwise_cons.1 h1).2 (List.pairwise_cons.1 h2).2]
theorem cmpA_anti {a b : Ad} (h1 : ¬ eP b a < 0) (h2 : ¬ eP a b < 0) : kdA a = kdA b ∧ a.hi = b.hi ∧ a.lo = b.lo := by
  rw [fX] at h1 h2; omega
theorem kd_inj {a b : Ad} (h : kdA a = kdA b) : a.six = b.six := by
  revert h; unfold kdA; cases a.six <;> cases b.six <;> simp
theorem cmpA_eq {a b : Ad} (h1 : ¬ eP b a < 0) (h2 : ¬ eP a b < 0) : a = b := by
  obtain ⟨q1, q2, q3⟩ := cmpA_anti h1 h2
  have q0 := kd_inj q1
  cases a; cases b; cases q0; cases q2; cases q3; rfl
/-- Rows that rise by their addresses, each address once, are the same if their members are. -/
theorem hd_sorted {xs ys zs : List Hd} (hp : xs.Perm zs) (hs : xs.Pairwise fun a b => ¬ eP b.ad a.ad < 0) (hz : ys.Perm zs) (hy : ys.Pairwise fun a b => ¬ eP b.ad a.ad < 0) (hu : ∀ a ∈ zs, ∀ b ∈ zs, a.ad = b.ad → a = b) : xs = ys := by
  have hx2 : xs.Pairwise fun a b => a ∈ zs ∧ b ∈ zs ∧ ¬ eP b.ad a.ad < 0 := by
    rw [List.pairwise_iff_getElem] at hs ⊢
    exact fun i j hi hj hij => ⟨hp.mem_iff.1 (List.getElem_mem hi), hp.mem_iff.1 (List.getElem_mem hj), hs i j hi hj hij⟩
  have hy2 : ys.Pairwise fun a b => a ∈ zs ∧ b ∈ zs ∧ ¬ eP b.ad a.ad < 0 := by
    rw [List.pairwise_iff_getElem] at hy ⊢
    exact fun i j hi hj hij => ⟨hz.mem_iff.1 (List.getElem_mem hi), hz.mem_iff.1 (List.getElem_mem hj), hy i j hi hj hij⟩
  exact perm_sorted (fun a b h1 h2 => hu a h1.1 b h1.2.1 (cmpA_eq h1.2.2 h2.2.2)) (hp.trans hz.symm) hx2 hy2

theorem ads_uniq {hm : Hm} (h : PInv hm) : ∀ a ∈ hm.map (fun p => p.2), ∀ b ∈ hm.map (fun p => p.2), a.ad = b.ad → a = b := fun a ha b hb e => by
  obtain ⟨p, hp, rfl⟩ := List.mem_map.1 ha
  obtain ⟨q, hq, rfl⟩ := List.mem_map.1 hb
  rw [nd_inj h.ads p hp q hq e]
theorem all_same {hm : Hm} (h : PInv hm) {o1 o2 : List Hd} (h1 : o1.Perm (hm.map (·.2)) ∧ o1.Pairwise fun a b => ¬ eP b.ad a.ad < 0) (h2 : o2.Perm (hm.map (·.2)) ∧ o2.Pairwise fun a b => ¬ eP b.ad a.ad < 0) : o1 = o2 :=
  hd_sorted h1.1 h1.2 h2.1 h2.2 (ads_uniq h)

end Go.Proofs.YtnpdgmoeoidppaaGreat

/- vips: who is held where, in plain words -/
namespace Go.Proofs.YtnpdgmoeoidppaaGreat
open Go.RowKit Go.Shelf
set_option linter.unusedVariables false
set_option linter.unusedSimpArgs false

theorem nd_len {α : Type} [DecidableEq α] : ∀ {l m : List α}, l.Nodup → (∀ a ∈ l, a ∈ m) → l.length ≤ m.length
  | [], _, _, _ => Nat.zero_le _
  | a :: l, m, hn, h => by
    rw [List.nodup_cons] at hn
    have ha := h a (.head _)
    have h1 := nd_len (l := l) (m := m.erase a) hn.2 fun b hb => (List.mem_erase_of_ne (fun e : b = a => hn.1 (e ▸ hb))).2 (h b (.tail _ hb))
    have h2 := List.length_erase_of_mem ha
    have h3 := List.length_pos_of_mem ha
    rw [List.length_cons]; omega
theorem cut_add {n m x i : Nat} (hx : x < 2 ^ n) (hm : m ≤ n) (hc : eU n m x = x) (hi : i < 2 ^ (n - m)) : x + i < 2 ^ n ∧ eU n m (x + i) = x := by
  obtain ⟨q, hq⟩ : ∃ q, x = q * 2 ^ (n - m) := ⟨x / 2 ^ (n - m), by rw [eU] at hc; exact hc.symm⟩
  have hpos : 0 < 2 ^ (n - m) := Nat.two_pow_pos _
  have hpow : 2 ^ m * 2 ^ (n - m) = 2 ^ n := by rw [← Nat.pow_add]; congr 1; omega
  have hq2 : q < 2 ^ m := by
    rw [hq, ← hpow] at hx; exact Nat.lt_of_mul_lt_mul_right hx
  have h3 : (q + 1) * 2 ^ (n - m) ≤ 2 ^ m * 2 ^ (n - m) := Nat.mul_le_mul_right _ hq2
  rw [Nat.succ_mul] at h3
  constructor
  · rw [← hpow, hq]; omega
  · rw [eU, hq, Nat.add_comm, Nat.add_mul_div_right _ _ hpos, Nat.div_eq_of_lt hi, Nat.zero_add]
theorem size_pow {r : Rg} (hz : cy r = 0) {m : Nat} (hm : r.bits = m) : bE r ≤ 2 ^ ((bR r.base).toNat - m) := by
  have hl := f8 hz
  rw [bE, if_neg (fun h => h hz)]
  split
  · rw [show (bR r.base - r.bits).toNat = (bR r.base).toNat - m by omega]; exact Nat.le_refl _
  · rw [show (65536 : Nat) = 2 ^ 16 by decide]
    exact Nat.pow_le_pow_right (by decide) (by omega)
/-- A place of a range: what it is, and that the range has it. -/
theorem at_ok {r : Rg} {i : Int} (hr : RgOk r) (hz : cy r = 0) (h0 : 0 ≤ i) (hlt : i < bE r) : bW r.base i = (⟨r.base.six, r.base.hi, r.base.lo + i⟩, true) ∧ cS r ⟨r.base.six, r.base.hi, r.base.lo + i⟩ = true ∧ r.base.lo + i ≤ 18446744073709551615 := by
  have h64 : (2 : Nat) ^ 64 = 18446744073709551616 := by decide
  have h32 : (2 : Nat) ^ 32 = 4294967296 := by decide
  obtain ⟨z1, z2, z3, z4⟩ := f8 hz
  obtain ⟨m, hm⟩ : ∃ m : Nat, r.bits = m := ⟨r.bits.toNat, by omega⟩
  obtain ⟨j, rfl⟩ : ∃ j : Nat, i = j := ⟨i.toNat, by omega⟩
  have hs := size_pow hz hm
  have hs2 := eQ r
  obtain ⟨⟨s, hi, lo⟩, bits⟩ := r
  obtain ⟨⟨a1, a2, a3, a4⟩, _⟩ := hr
  dsimp only at *
  subst hm
  cases s with
  | true =>
    rw [bR, if_pos rfl] at z3 hs
    rw [head_six rfl (by omega) ⟨a1, a2⟩ ⟨a3, a4⟩] at z4
    have g1 := congrArg Ad.hi z4; have g2 := congrArg Ad.lo z4
    dsimp only at g1 g2
    have hj : j < 2 ^ (64 - (m - 64)) := by
      by_cases h : m ≤ 64
      · rw [show 64 - (m - 64) = 64 by omega]; omega
      · rw [show 64 - (m - 64) = (128 : Int).toNat - m by omega]; omega
    obtain ⟨c1, c2⟩ := cut_add (n := 64) (m := m - 64) (x := lo.toNat) (i := j) (by omega) (by omega) (by omega) hj
    have hck : bV ⟨true, hi, lo + j⟩ = 0 := by rw [bV, if_neg]; exact fun h => nomatch h.1
    refine ⟨?_, ?_, by omega⟩
    · rw [bW, if_neg (fun h => h z1), if_neg]
      · rw [fA, if_pos rfl]
        congr 1
        simp only [hiS, loS, loC, Ad.mk.injEq, true_and]
        omega
      · rw [carA, if_pos rfl, fA, if_pos rfl]
        simp only [hiC, loC]
        have : bV ⟨true, hiS ⟨true, hi, lo⟩ j, loS ⟨true, hi, lo⟩ j⟩ = 0 := by rw [bV, if_neg]; exact fun h => nomatch h.1
        rw [this]
        omega
    · rw [cS, decide_eq_true hz, decide_eq_true hck, decide_eq_true rfl, decide_eq_true]; · rfl
      rw [head_six rfl (by omega) ⟨a1, a2⟩ (by dsimp only; omega)]
      dsimp only
      rw [show (lo + (j : Int)).toNat = lo.toNat + j by omega, c2, g1]
      simp only [Ad.mk.injEq, true_and]; omega
  | false =>
    have hlo : lo < 4294967296 ∧ hi = 0 := by
      unfold bV at z1
      split at z1
      · exact absurd z1 (by decide)
      · rename_i q; have q2 : ¬ (hi ≠ 0 ∨ 4294967296 ≤ lo) := fun x => q ⟨rfl, x⟩; omega
    obtain ⟨b1, rfl⟩ := hlo
    rw [bR, if_neg (fun h => nomatch h)] at z3 hs
    rw [head_four rfl (by omega) ⟨a3, b1⟩] at z4
    have g2 := congrArg Ad.lo z4
    dsimp only at g2
    have hj : j < 2 ^ (32 - m) := by rw [show 32 - m = (32 : Int).toNat - m by omega]; omega
    obtain ⟨c1, c2⟩ := cut_add (n := 32) (m := m) (x := lo.toNat) (i := j) (by omega) (by omega) (by omega) hj
    have hck : bV ⟨false, 0, lo + j⟩ = 0 := by rw [bV, if_neg]; exact fun h => h.2.elim (fun e => e rfl) (fun e => by dsimp only at e; omega)
    refine ⟨?_, ?_, by omega⟩
    · have hl : loS ⟨false, 0, lo⟩ j = lo + j := by simp only [loS]; omega
      rw [bW, if_neg (fun h => h z1), if_neg]
      · rw [fA, if_neg (fun h => nomatch h), hl]
      · rw [carA, if_neg (fun h => nomatch h), fA, if_neg (fun h => nomatch h), hl, hck]
        simp only [loC]
        omega
    · rw [cS, decide_eq_true hz, decide_eq_true hck, decide_eq_true rfl, decide_eq_true]; · rfl
      rw [head_four rfl (by omega) (by dsimp only; omega)]
      dsimp only
      rw [show (lo + (j : Int)).toNat = lo.toNat + j by omega, c2]
      simp only [Ad.mk.injEq, true_and]; omega
theorem at_add {r : Rg} {i : Int} (h0 : 0 ≤ i) (hi : i < bE r) : atR r i = bW r.base i := if_neg (by omega)
/-- The places that are nobody's. -/
def plcV (v : Vp) : List Ad := (dG v.rg).filter (eo v.res)
theorem each_nodup {r : Rg} (hr : RgOk r) (hz : cy r = 0) : (dG r).Nodup := by
  rw [dG, List.Nodup, List.pairwise_map]
  refine List.Pairwise.imp_of_mem (fun {a b} ha hb hne e => ?_) List.nodup_range
  rw [List.mem_range] at ha hb
  rw [(at_ok hr hz (Int.natCast_nonneg a) (by omega)).1, (at_ok hr hz (Int.natCast_nonneg b) (by omega)).1] at e
  have := congrArg Ad.lo e
  dsimp only at this
  exact hne (by omega)
theorem each_mem {r : Rg} {a : Ad} : a ∈ dG r ↔ ∃ i : Int, 0 ≤ i ∧ i < bE r ∧ a = (atR r i).1 := by
  rw [dG, List.mem_map]
  constructor
  · rintro ⟨k, hk, rfl⟩
    rw [List.mem_range] at hk
    exact ⟨k, Int.natCast_nonneg k, by omega, by rw [at_add (by omega) (by omega)]⟩
  · rintro ⟨i, h0, hi, rfl⟩
    exact ⟨i.toNat, List.mem_range.2 (by omega), by rw [at_add h0 hi, Int.toNat_of_nonneg h0]⟩
structure HInv (v : Vp) (hm : Hm) : Prop where
  inv : PInv hm
  pl : ∀ p ∈ hm, p.2.ad ∈ plcV v
theorem HInv.nil {v : Vp} : HInv v [] := ⟨⟨.nil, .nil, nofun⟩, nofun⟩
theorem HInv.filter {v : Vp} {hm : Hm} (h : HInv v hm) (P : aK × Hd → Bool) : HInv v (hm.filter P) := ⟨h.inv.filter P, fun p hp => h.pl p (List.mem_filter.1 hp).1⟩
theorem HInv.give {v : Vp} {hm : Hm} {n : aK} (h : HInv v hm) (hn : br n = true) : HInv v (bl v hm (bO hm) n).2.1 := by
  refine ⟨(give_inv h.inv n).2.1, fun p hp => ?_⟩
  rcases fL (v := v) (hm := hm) hn with ⟨g1, _⟩ | ⟨i, h1, h2, h3, _, _, g1⟩
  · rw [g1] at hp; exact h.pl p hp
  · rw [g1, List.mem_append] at hp
    rcases hp with hp | hp
    · exact h.pl p hp
    · rw [List.mem_singleton.1 hp]
      simp only [dw, Bool.and_eq_true] at h3
      exact List.mem_filter.2 ⟨each_mem.2 ⟨i, h1, h2, rfl⟩, h3.2⟩
theorem HInv.fold {v : Vp} : ∀ {hosts : List aK} {s : Hm × List aK}, (∀ n ∈ hosts, br n = true) → HInv v s.1 → HInv v (hosts.foldl (dM v) s).1
  | [], _, _, h => h
  | n :: t, s, hh, h => HInv.fold (hosts := t) (s := dM v s n) (fun x hx => hh x (.tail _ hx)) (h.give (hh n (.head _)))
theorem HInv.keep {v : Vp} {hm : Hm} {hosts : List aK} (h : HInv v hm) : HInv v (bJ v hm hosts).2 := by
  by_cases hk : hosts.all br = false
  · rw [show bJ v hm hosts = (([], 2), hm) from if_pos hk]; exact h
  · rw [show bJ v hm hosts = (((di v (cT hm hosts) hosts).2, 0), (di v (cT hm hosts) hosts).1) from if_neg hk]
    exact HInv.fold (s := (cT hm hosts, [])) (fg hk) (h.filter _)
theorem HInv.len {v : Vp} {hm : Hm} (h : HInv v hm) : hm.length ≤ dx v.rg v.res := by
  have := nd_len h.inv.ads (m := plcV v) fun a ha => by
    obtain ⟨p, hp, rfl⟩ := List.mem_map.1 ha
    exact h.pl p hp
  rw [List.length_map] at this; exact this
/-- Where giving fails, all that is free is given. -/
theorem HInv.full {v : Vp} {hm : Hm} (h : HInv v hm) (hr : RgOk v.rg) (hz : cy v.rg = 0) (hroom : v.room = dx v.rg v.res) (hf : gv v hm) : hm.length = dx v.rg v.res := by
  rcases hf with hf | hf
  · omega
  · refine Nat.le_antisymm h.len ?_
    have := nd_len (l := plcV v) (m := hm.map fun p => p.2.ad) ((each_nodup hr hz).sublist List.filter_sublist) fun a ha => by
      obtain ⟨h1, h2⟩ := List.mem_filter.1 ha
      obtain ⟨i, i0, i1, rfl⟩ := each_mem.1 h1
      have h3 := hf i i0 i1
      rw [dw, h2, Bool.and_true, Bool.not_eq_false', lkp_mem, amOf_keys] at h3
      exact h3
    rw [List.length_map] at this; exact this
end Go.Proofs.YtnpdgmoeoidppaaGreat

/- law 14: two pools of one kind, what they keep -/
namespace Go.Proofs.YtnpdgmoeoidppaaGreat
open Go.RowKit Go.Shelf
set_option linter.unusedVariables false
set_option linter.unusedSimpArgs false

instance : DecidableEq Hd := fun a b => if h : a.host = b.host ∧ a.ad = b.ad then .isTrue (by cases a; cases b; cases h.1; cases h.2; rfl) else .isFalse (fun e => h (by rw [e]; exact ⟨rfl, rfl⟩))
theorem eqd_hd (a b : Hd) : EqD Tryz.prog 3 46 (.agg (hdC a).toArray) (.agg (hdC b).toArray) (decide (a = b)) := by
  have h : EqD Tryz.prog 3 46 (.agg (hdC a).toArray) (.agg (hdC b).toArray) ((a.host == b.host) && (decide (a.ad = b.ad) && true)) :=
    eqd_struct (n := 2) Tryz.underlying46 (by kernel_rfl) (ff (v := .string (ba a.host)) (u := .string (ba b.host)) (by kernel_rfl) (fun _ => by kernel_rfl) (fun _ => by kernel_rfl) (eqd_str Tryz.underlying26) rfl (ff (v := .agg (dP a.ad).toArray) (u := .agg (dP b.ad).toArray) (by kernel_rfl) (fun _ => by kernel_rfl) (fun _ => by kernel_rfl) (eqd_ad a.ad b.ad) rfl eqf_nil))
  have e : ((a.host == b.host) && (decide (a.ad = b.ad) && true)) = decide (a = b) := by
    cases a; cases b
    rw [Bool.eq_iff_iff]
    simp
  rw [e] at h; exact h
theorem Hp.memS {ok0 : Nat → Prop} {w0 w : World} {L S M : List Ch} {c : Ch} (h : Hp ok0 w0 L S w) (hM : Ch.rall M ∈ S) (hc : c ∈ M) : Hp ok0 w0 L (c :: S) w :=
  h.share (Upd.refl _ _) c (h.sh _ hM c hc) (fun b hb => .inr ⟨_, hM, c, hc, hb⟩)
def vR (rg : Rg) (res : List Rg) : Vp := ⟨rg, res, none, 0, dx rg res, 0, 0, 0⟩
theorem c_kE {v : Vp} {rg : Rg} {res : List Rg} (h : v.rg = rg ∧ v.res = res ∧ v.room = dx rg res) (hr : RgOk rg) (hrs : ∀ x ∈ res, RgOk x) (hl : res.length ≤ 1000000000000) {hm hm2 : Hm} {hosts ls : List aK} {er : Int} (hK : bJ (vR rg res) hm hosts = ((ls, er), hm2)) (A : Option Addr) (c : Nat) (hi0 : PInv hm) (hml : hm.length + hosts.length ≤ 1000000) (hhb : ∀ n ∈ hosts, n.length ≤ 1000000000) :
    UC Tryz.prog 41 #[.pointer (some ⟨v.b, 0, none⟩), .slice A hosts.length c] [Ch.row v.b (vpC v) 146, Ch.rd v.A 4 dX v.res, Ch.rd A 1 dA hosts] (vmC v hm (bO hm)) (α := Option Addr × Nat) (fun p => .tuple #[.slice p.1 ls.length p.2, .int .i64 er]) (fun p => Ch.two (vmC v hm2 (bO hm2)) (Ch.ls p.1 p.2 26 1 dA ls)) := by
  have e := c_vKeep v hm hosts A c (new_ok hr hrs hl h) hi0 hml hhb
  rw [keep_cong (v := v) (v' := vR rg res) h, hK] at e
  exact e
theorem keep_nil (v : Vp) (hm : Hm) : bJ v hm [] = (([], 0), []) := by
  have h1 : bJ v hm [] = (((di v (cT hm []) []).2, 0), (di v (cT hm []) []).1) := if_neg (by decide)
  rw [h1]
  have h2 : cT hm [] = [] := by rw [cT, List.filter_eq_nil_iff]; intro p _; simp
  rw [h2]; rfl
theorem keep_two {v : Vp} {hm hm2 : Hm} {hosts ls : List aK} {er : Int} (hK : bJ v hm hosts = ((ls, er), hm2)) : bJ v hm2 hosts = ((ls, er), hm2) := by
  have := keep_twice v hm hosts; rw [hK] at this; exact this
theorem keep_inv {v : Vp} {hm hm2 : Hm} {hosts ls : List aK} {er : Int} (h : HInv v hm) (hK : bJ v hm hosts = ((ls, er), hm2)) : HInv v hm2 := by
  have := h.keep (hosts := hosts); rw [hK] at this; exact this
theorem lostL_len {hm : Hm} : ∀ {hosts l : List aK}, (lostL hm l hosts).length ≤ l.length + hosts.length
  | [], _ => Nat.le_refl _
  | n :: t, l => by
    have h := lostL_len (hm := hm) (hosts := t) (l := fZ hm l n)
    have h2 : (fZ hm l n).length ≤ l.length + 1 := by
      unfold fZ; split
      · simp
      · omega
    rw [List.length_cons]
    exact Nat.le_trans h (by omega)
theorem lost_len14 {v : Vp} {hm hm2 : Hm} {hosts ls : List aK} {er : Int} (hK : bJ v hm hosts = ((ls, er), hm2)) : ls.length ≤ hosts.length := by
  by_cases h : hosts.all br = false
  · rw [show bJ v hm hosts = (([], 2), hm) from if_pos h] at hK
    cases hK; exact Nat.zero_le _
  · have h1 := (keep_kept (v := v) (hm := hm) h).1.lost
    rw [hK] at h1
    dsimp only at h1
    rw [h1]
    have := lostL_len (hm := hm2) (hosts := hosts) (l := [])
    simpa using this
theorem light_nil {rg : Rg} {nr : Nat} (h : bf rg nr [] = true) : nr ≤ 6 ∧ bE rg ≤ 128 := by
  simp only [bf, Bool.and_eq_true, decide_eq_true_eq] at h; exact h.2.2
theorem light_one {rg : Rg} {nr : Nat} {a : Ac} (h : bf rg nr [a] = true) : a.hosts.length ≤ 20 ∧ ∀ n ∈ a.hosts, n.length ≤ 400 := by
  simp only [bf, Bool.and_eq_true, decide_eq_true_eq, List.all_cons, bv, c5, List.all_eq_true] at h; exact h.1.1.2
theorem dn {rg : Rg} {res : List Rg} {hm : Hm} (h : HInv (vR rg res) hm) : hm.length ≤ 65536 := Nat.le_trans h.len (free_le rg res)
theorem perm_len {o : List Hd} {hm : Hm} (h : o.Perm (hm.map (·.2))) : o.length = hm.length := by rw [h.length_eq, List.length_map]

set_option maxRecDepth 100000 in
theorem c_kit_Same_hd (xs ys : List Hd) (A B : Option Addr) (c e : Nat) (hl : xs.length ≤ 1000000000000) : RC Tryz.prog 42 #[.slice A xs.length c, .slice B ys.length e] [Ch.rd A 4 hdC xs, Ch.rd B 4 hdC ys] (α := Unit) (fun _ => .bool (decide (xs = ys))) (fun _ => []) := by
 refine bd (args := [.slice A xs.length c, .slice B ys.length e]) 26 Tryz.func42 rfl rfl rfl (fun w0 => ?_)
 refine ao ?_
 refine aa ?_
 refine ap (ai rfl) rfl rfl ?_
 refine ab ?_
 refine aj ?_
 refine ao ?_
 refine ao ?_
 refine aa ?_
 refine ap (ak rfl) rfl rfl ?_
 refine ap (bL Tryz.underlying25 rfl) rfl rfl ?_
 refine ap (ak rfl) rfl rfl ?_
 refine ap (bL Tryz.underlying25 rfl) rfl rfl ?_
 refine ap (b8 rfl rfl) rfl rfl ?_
 refine aC (t := 10) rfl (fun h1_4 => ?_) (fun h1_4 => ?_)
 refine ab ?_
 refine aj ?_
 refine ax rfl ?_
 refine ao ?_
 refine aa ?_
 refine ap (ai rfl) rfl rfl ?_
 refine ab ?_
 refine aj ?_
 refine aB ?_
 refine aw ?_
 refine aG (ts := [4]) rfl rfl rfl (fun w hw => ?_)
 have hne : xs ≠ ys := fun he => by rw [he] at h1_4; exact absurd rfl h1_4
 exact ⟨(), by rw [decide_eq_false hne]; rfl, hw.base, hw.toNews⟩
 refine ab ?_
 refine aj ?_
 refine au rfl ?_
 refine aF ?_
 refine aj ?_
 refine ao ?_
 refine ao ?_
 refine aa ?_
 refine ap (ai rfl) rfl rfl ?_
 refine ab ?_
 refine aj ?_
 refine aP ?_
 refine cQ (σ := Nat) [4, 5, 11, 12, 13, 14, 15, 16, 17, 18, 19, 20, 21, 22, 23, 24, 25] (fun k => k ≤ xs.length ∧ xs.take k = ys.take k) (fun k => xs.length - k) (fun k => [(5, .int .i64 k)]) (0) ?_ ⟨rfl, trivial⟩ (fun k hI => ?_)
 exact ⟨Nat.zero_le _, rfl⟩
 refine ao ?_
 refine ao ?_
 refine aa ?_
 refine ap (ak rfl) rfl rfl ?_
 refine ap (ak rfl) rfl rfl ?_
 refine ap (bL Tryz.underlying25 rfl) rfl rfl ?_
 refine ap (ce rfl rfl) rfl rfl ?_
 refine aC (t := 14) rfl (fun h4_3 => ?_) (fun h4_3 => ?_)
 refine ab ?_
 refine aj ?_
 refine ax rfl ?_
 refine aF ?_
 refine aj ?_
 refine ao ?_
 refine aP ?_
 refine ao ?_
 refine dC 9 rfl mixed ?_
 refine ar (i := 0) rfl ah (ak rfl) av av rfl (ae (aO (ae (bC (aO (ae aq)))))) (by kernel_rfl) rfl ?_
 refine ar (i := 1) rfl ah (ak rfl) av av rfl (ae (aO (ae (bC (aO (ae aq)))))) (by kernel_rfl) rfl ?_
 refine ar (i := 2) rfl ah (cB  Tryz.underlying25 cp rfl rfl (cF 0 rfl) rfl (by omega)) av av rfl (ae (aO (ae (bC (aO (ae aq)))))) (by kernel_rfl) rfl ?_
 refine ar (i := 3) rfl ah (gi enc_hd fV cp rfl (cF 0 rfl) (by omega) rfl rfl rfl) av av rfl (ae (aO (ae (bC (aO (ae aq)))))) (by kernel_rfl) rfl ?_
 refine ar (i := 4) rfl ah (ak rfl) av av rfl (ae (aO (ae (bC (aO (ae aq)))))) (by kernel_rfl) rfl ?_
 refine ar (i := 5) rfl ah (ak rfl) av av rfl (ae (aO (ae (bC (aO (ae aq)))))) (by kernel_rfl) rfl ?_
 refine ar (i := 6) rfl ah (cB  Tryz.underlying25 cp rfl rfl (cF 1 rfl) rfl (by omega)) av av rfl (ae (aO (ae (bC (aO (ae aq)))))) (by kernel_rfl) rfl ?_
 refine ar (i := 7) rfl ah (gi enc_hd fV cp rfl (cF 1 rfl) (by omega) rfl rfl rfl) av av rfl (ae (aO (ae (bC (aO (ae aq)))))) (by kernel_rfl) rfl ?_
 refine ar (i := 8) rfl ah (y_nestd (by kernel_rfl) rfl rfl (eqd_hd _ _) rfl) av av rfl (ae (aO (ae (bC (aO (ae aq)))))) (by kernel_rfl) rfl ?_
 refine co (t := 25) rfl (fun h6_8 => ?_) (fun h6_8 => ?_)
 refine bU (by kernel_rfl) ?_
 refine aj ?_
 refine ax rfl ?_
 refine ao ?_
 refine aa ?_
 refine ap (ai rfl) rfl rfl ?_
 refine ab ?_
 refine aj ?_
 refine aB ?_
 refine aM ?_
 refine aw ?_
 refine bk ?_
 refine aM ?_
 refine aw ?_
 refine aG (ts := [4]) rfl rfl rfl (fun w hw => ?_)
 focus first
   | (have hne : xs ≠ ys := eN fV (k := k) (by simpa using h6_8)
      exact ⟨(), by rw [decide_eq_false hne]; rfl, hw.base, hw.toNews⟩)
   | (have hk : k = xs.length := by omega
      have he : xs = ys := by have := hI.2; rw [hk, List.take_length, List.take_of_length_le (by omega)] at this; exact this
      exact ⟨(), by rw [decide_eq_true he]; rfl, hw.base, hw.toNews⟩)
 refine bU (by kernel_rfl) ?_
 refine aj ?_
 refine au rfl ?_
 refine aF ?_
 refine bw ?_
 refine aj ?_
 refine aa ?_
 refine ap (ak rfl) rfl rfl ?_
 refine ap (bF rfl rfl (by omega) (by omega)) rfl rfl ?_
 refine ap (ai rfl) rfl rfl ?_
 refine ab ?_
 refine bH (k + 1) ?_ ?_ ⟨rfl, trivial⟩ (by repeat (first | exact trivial | refine ⟨rfl, ?_⟩)) av
 exact ⟨by omega, f0 fV (by omega) (by omega) hI.2 (by simpa using h6_8)⟩
 omega
 refine ab ?_
 refine aj ?_
 refine au rfl ?_
 refine bP ?_
 refine bb ?_
 refine a6 ?_
 refine bc ?_
 refine aj ?_
 refine ao ?_
 refine aa ?_
 refine ap (ai rfl) rfl rfl ?_
 refine ab ?_
 refine aj ?_
 refine aB ?_
 refine aG (ts := [4]) rfl rfl rfl (fun w hw => ?_)
 focus first
   | (have hne : xs ≠ ys := eN fV (k := k) (by simpa using h6_8)
      exact ⟨(), by rw [decide_eq_false hne]; rfl, hw.base, hw.toNews⟩)
   | (have hk : k = xs.length := by omega
      have he : xs = ys := by have := hI.2; rw [hk, List.take_length, List.take_of_length_le (by omega)] at this; exact this
      exact ⟨(), by rw [decide_eq_true he]; rfl, hw.base, hw.toNews⟩)
end Go.Proofs.YtnpdgmoeoidppaaGreat

/- law 14: a push twice -/
namespace Go.Proofs.YtnpdgmoeoidppaaGreat
open Go.RowKit Go.Shelf
set_option linter.unusedVariables false
set_option linter.unusedSimpArgs false

theorem bu_85_2 (x0 : Option Addr) (x1 : Nat) (x2 : Nat) : Tryz.prog.built 85 [(2, .slice x0 x1 x2)] = some [.int .i64 0, .string ⟨#[]⟩, .slice x0 x1 x2, .bool false, .int .u64 0, .int .u64 0].toArray := by kernel_rfl
theorem ent_26 : Enters Tryz.prog 26 := enters_of Tryz.func26 (by kernel_rfl) rfl
theorem ent_30 : Enters Tryz.prog 30 := enters_of Tryz.func30 (by kernel_rfl) rfl
theorem ent_32 : Enters Tryz.prog 32 := enters_of Tryz.func32 (by kernel_rfl) rfl
theorem ent_36 : Enters Tryz.prog 36 := enters_of Tryz.func36 (by kernel_rfl) rfl
theorem ent_40 : Enters Tryz.prog 40 := enters_of Tryz.func40 (by kernel_rfl) rfl
theorem ent_41 : Enters Tryz.prog 41 := enters_of Tryz.func41 (by kernel_rfl) rfl
theorem ent_42 : Enters Tryz.prog 42 := enters_of Tryz.func42 (by kernel_rfl) rfl

set_option maxRecDepth 100000 in
set_option maxHeartbeats 4000000 in
theorem c_VipsTwice (rg : Rg) (res : List Rg) (A : Option Addr) (c : Nat) (hr : RgOk rg) (hrs : ∀ x ∈ res, RgOk x) (hres : res.length ≤ 9223372036854775807) (rows : List Nr) (R : Option Addr) (rc : Nat) (hrl : rows.length ≤ 9223372036854775807) (hrb : ∀ q ∈ rows, q.1.length ≤ 9223372036854775807 ∧ ∀ s ∈ q.1, s.length ≤ 9223372036854775807) : RC Tryz.prog 5 #[.agg (plC rg A res.length c).toArray, .slice R rows.length rc] [Ch.rd A 4 dX res, Ch.rd R 1 nrC rows, Ch.rall (rows.flatMap nrR)] (α := Unit) (fun _ => .bool true) (fun _ => []) := by
 refine bd (args := [.agg (plC rg A res.length c).toArray, .slice R rows.length rc]) 141 Tryz.func5 rfl rfl rfl (fun w0 => ?_)
 rcases Decidable.em (fC (rg :: res) = 0) with hT | hT
 refine ao ?_
 refine aa ?_
 refine bu rfl rfl rfl (fun b1 => ?_)
 refine ap (ai rfl) rfl rfl ?_
 refine ab ?_
 refine aj ?_
 refine ao ?_
 refine ao ?_
 refine aa ?_
 refine aU rfl ent_30 c_lives14 rfl ?_
 refine bT (t := 17) (.bool true) rfl (congrArg Value.bool rfl) ?_
 refine ap (bB rfl) rfl rfl ?_
 refine ab ?_
 refine aj ?_
 refine au rfl ?_
 refine aF ?_
 refine aj ?_
 refine ao ?_
 refine ao ?_
 refine aa ?_
 refine ap (ak rfl) rfl rfl ?_
 refine ap (bL Tryz.underlying83 rfl) rfl rfl ?_
 refine ap (eA rfl rfl) rfl rfl ?_
 refine aC (t := 21) rfl (fun h3_2 => ?_) (fun h3_2 => ?_)
 refine ap (ak rfl) rfl rfl ?_
 refine aR rfl rfl rfl rfl ?_
 refine aR rfl rfl rfl rfl ?_
 refine aR rfl rfl rfl rfl ?_
 refine ap (aT rfl rfl) rfl rfl ?_
 refine ab ?_
 refine aj ?_
 refine ax rfl ?_
 refine ao ?_
 refine aa ?_
 refine ap (ai rfl) rfl rfl ?_
 refine ab ?_
 refine aj ?_
 refine aB ?_
 refine aw ?_
 refine aG (ts := [4]) rfl rfl rfl (fun w hw => ?_)
 exact ⟨(), rfl, hw.base, (hw.weak (List.nil_sublist _) (fun s hs => hs)).toNews⟩
 refine ap (ak rfl) rfl rfl ?_
 refine ay rfl rfl ?_
 refine ap (aJ 0 d8 rfl rfl rfl rfl) rfl rfl ?_
 refine ay rfl rfl ?_
 refine bi rfl ent_32 rfl (c_light14 rg res.length A c [] none 0 hr.1 hres (by decide)) (fun w hw => (aI (rd_none) (aI (rd_rall nofun) a8))) ?_
 refine bh (t := 24) rfl (fun h3_5 => ?_) (fun h3_5 => ?_)
 have hl6 := light_nil h3_5
 have hlb : res.length ≤ 1000000000000 := by omega
 refine ay rfl rfl ?_
 refine ap (bB rfl) rfl rfl ?_
 refine ap (aN rfl rfl) rfl rfl ?_
 refine ab ?_
 refine aj ?_
 refine au rfl ?_
 refine aF ?_
 refine aj ?_
 refine ao ?_
 refine aa ?_
 refine ap (aJ 0 d8 rfl rfl rfl rfl) rfl rfl ?_
 refine gb rfl ent_31 rfl (c_vNew rg res A c hr hrs hlb hT) (fun w hw => (aI (cL 0 rfl hw) a8)) (fun ⟨x, hx⟩ => ?_)
 refine bX (fun w h => h.f1.toRdV.f1.freeze) ?_
 refine ap (ak rfl) rfl rfl ?_
 refine ap (aD rfl rfl) rfl rfl ?_
 refine ap (aD rfl rfl) rfl rfl ?_
 refine ap (ai rfl) rfl rfl ?_
 refine ap (ai rfl) rfl rfl ?_
 refine ab ?_
 refine aj ?_
 refine ao ?_
 refine aa ?_
 refine ap (aJ 1 d8 rfl rfl rfl rfl) rfl rfl ?_
 refine gb rfl ent_31 rfl (c_vNew rg res A c hr hrs hlb hT) (fun w hw => (aI (cL 2 rfl hw) a8)) (fun ⟨y, hy⟩ => ?_)
 refine bX (fun w h => h.f1.toRdV.f1.freeze) ?_
 refine ap (ak rfl) rfl rfl ?_
 refine ap (aD rfl rfl) rfl rfl ?_
 refine ap (aD rfl rfl) rfl rfl ?_
 refine ap (ai rfl) rfl rfl ?_
 refine ap (ai rfl) rfl rfl ?_
 refine ab ?_
 refine aj ?_
 refine ao ?_
 refine ao ?_
 refine aa ?_
 refine ap (ak rfl) rfl rfl ?_
 refine ap (b8 rfl rfl) rfl rfl ?_
 refine wl_af (t := 38) rfl (fun h => h rfl) ?_
 refine ap (ak rfl) rfl rfl ?_
 refine ay rfl rfl ?_
 refine ap (ak rfl) rfl rfl ?_
 refine ay rfl rfl ?_
 refine ap (b8 rfl rfl) rfl rfl ?_
 refine wl_af (t := 41) rfl (fun h => h rfl) ?_
 refine ap (aN rfl rfl) rfl rfl ?_
 refine ap (ak rfl) rfl rfl ?_
 refine ay rfl rfl ?_
 refine ap (ak rfl) rfl rfl ?_
 refine ay rfl rfl ?_
 refine ap (fc Tryz.underlying68 rfl rfl) rfl rfl ?_
 refine bT (t := 45) (.bool false) rfl (congrArg Value.bool rfl) ?_
 refine ap (aN rfl rfl) rfl rfl ?_
 refine ap (ak rfl) rfl rfl ?_
 refine ay rfl rfl ?_
 refine ap (ak rfl) rfl rfl ?_
 refine ay rfl rfl ?_
 refine ap (fc Tryz.underlying68 rfl rfl) rfl rfl ?_
 refine bT (t := 49) (.bool false) rfl (congrArg Value.bool rfl) ?_
 refine ap (aN rfl rfl) rfl rfl ?_
 refine ab ?_
 refine aj ?_
 refine au rfl ?_
 refine aF ?_
 refine aj ?_
 refine ao ?_
 refine ao ?_
 refine aa ?_
 refine ap (ai rfl) rfl rfl ?_
 refine ab ?_
 refine aj ?_
 refine aP ?_
 refine cH (fun w h => h.f1) ?_
 refine w_loop2 (σ := Nat × Hm) [4, 9, 10, 11, 12, 13, 14, 15, 16, 54, 55, 56, 57, 58, 59, 60, 61, 62, 63, 64, 65, 66, 67, 68, 69, 70, 71, 72, 73, 74, 75, 76, 77, 78, 79, 80, 81, 82, 83, 84, 85, 86, 87, 88, 89, 90, 91, 92, 93, 94, 95, 96, 97, 98, 99, 100, 101, 102, 103, 104, 105, 106, 107, 108, 109, 110, 111, 112, 113, 114, 115, 116, 117, 118, 119, 120, 121, 122, 123, 124, 125, 126, 127, 128, 129, 130, 131, 132, 133, 134, 135, 136, 137, 138, 139, 140] (fun q => q.1 ≤ rows.length ∧ HInv (vR rg res) q.2) (fun q => rows.length - q.1) (fun q => [(9, .int .i64 q.1)]) (fun q => vmC x q.2 (bO q.2)) (fun q => vmC y q.2 (bO q.2)) ((0, [])) ?_ ⟨rfl, trivial⟩ rfl rfl (fun q hI => ?_)
 exact ⟨Nat.zero_le _, HInv.nil⟩
 obtain ⟨i, hm⟩ := q
 dsimp only at hI ⊢
 refine ao ?_
 refine ao ?_
 refine aa ?_
 refine ap (ak rfl) rfl rfl ?_
 refine ap (ak rfl) rfl rfl ?_
 refine ap (bL Tryz.underlying83 rfl) rfl rfl ?_
 refine ap (ce rfl rfl) rfl rfl ?_
 refine aC (t := 57) rfl (fun h10_3 => ?_) (fun h10_3 => ?_)
 have hi : i < rows.length := by omega
 refine ab ?_
 refine aj ?_
 refine ax rfl ?_
 refine aF ?_
 refine aj ?_
 refine ao ?_
 refine aP ?_
 refine ao ?_
 refine ao ?_
 refine gc 9 rfl mixed ?_
 refine aW (i := 0) rfl ah (aJ 2 d8 rfl rfl rfl rfl) av av rfl (ae (ae (aO (ae (bC (aO (ae aq))))))) (by kernel_rfl) rfl ?_
 refine aW (i := 1) rfl ah (ak rfl) av av rfl (ae (ae (aO (ae (bC (aO (ae aq))))))) (by kernel_rfl) rfl ?_
 refine aW (i := 2) rfl ah (ak rfl) av av rfl (ae (ae (aO (ae (bC (aO (ae aq))))))) (by kernel_rfl) rfl ?_
 refine aW (i := 3) rfl ah (cB  Tryz.underlying83 d7 rfl rfl (cF 5 rfl) rfl (by omega)) av av rfl (ae (ae (aO (ae (bC (aO (ae aq))))))) (by kernel_rfl) rfl ?_
 refine aW (i := 4) rfl ah (c6 enc_nr nr0 d7 rfl (cF 5 rfl) (by omega) rfl rfl) av av rfl (ae (ae (aO (ae (bC (aO (ae aq))))))) (by kernel_rfl) rfl ?_
 refine aW (i := 5) rfl ah (bD rfl (bu_85_2 _ _ _)) av av rfl (ae (ae (aO (ae (bC (aO (ae aq))))))) (by kernel_rfl) rfl ?_
 refine c9 (i := 6) rfl rfl rfl (fun _ _ _ => bz (by kernel_rfl)) (by kernel_rfl) rfl ?_
 refine f9 (vs := [_]) ([(⟨0, [], (rows.getD i nr0).1, (rows.getD i nr0).2.1, (rows.getD i nr0).2.2, ad0⟩ : Ac)] : List (Ac)) enc_ac Tryz.underlying86 ty_85 rfl rfl rfl rfl rfl rfl (fun As4 => ?_)
 refine ab ?_
 refine bK (cE 1) ?_
 refine c9 (i := 7) rfl rfl rfl (bg rfl ent_32) (by kernel_rfl) rfl ?_
 refine bi rfl ent_32 rfl (c_light14 rg res.length A c [⟨0, [], (rows.getD i nr0).1, (rows.getD i nr0).2.1, (rows.getD i nr0).2.2, ad0⟩] _ _ hr.1 hres (Nat.le_of_ble_eq_true rfl)) (fun w hw => (aI (d5 0 rfl hw) (aI (rd_rall (aI (rd_all (cL 6 rfl hw) (List.mem_flatMap.2 ⟨_, cg (d := nr0) hi, .head _⟩)) a8)) a8))) ?_
 refine ab ?_
 refine bK (cE 1) ?_
 refine wu_splitb (t := 67) rfl (fun h12_7 => ?_) (fun h12_7 => ?_)
 obtain ⟨hhl, hhb4⟩ := light_one h12_7
 dsimp only at hhl hhb4
 have hhb : ∀ n ∈ (rows.getD i nr0).1, n.length ≤ 1000000000 := fun n hn => by have := hhb4 n hn; omega
 obtain ⟨⟨⟨ls, er⟩, hm2⟩, hK⟩ : ∃ r, bJ (vR rg res) hm (rows.getD i nr0).1 = r := ⟨_, rfl⟩
 have hK2 := keep_two hK
 have hI2 := keep_inv hI.2 hK
 have hlsl : ls.length ≤ 1000000000000 := by have := lost_len14 hK; omega
 refine aW (i := 8) rfl ah (bB rfl) (cE 1) av rfl (ae (ae (aO (ae (bC (aO (ae aq))))))) (by kernel_rfl) rfl ?_
 refine dL (by kernel_rfl) ?_
 refine aj ?_
 refine au rfl ?_
 refine aF ?_
 refine aj ?_
 refine ao ?_
 refine cH (fun w h => h.memS (List.mem_of_getElem? (i := 6) rfl) (List.mem_flatMap.2 ⟨_, cg (d := nr0) hi, .head _⟩)) ?_
 refine aa ?_
 refine ap (ak rfl) rfl rfl ?_
 refine o_callr2 rfl ent_40 rfl (c_vClone x hm (bO hm)) (fun w hw => (aI (cL 3 rfl hw) (aI (fo (eW 1 rfl hw)) (aI (rd_two2 (eW 1 rfl hw)) a8)))) (fun ⟨u, hu⟩ => ?_)
 refine bX (fun w h => h.f1.freeze) ?_
 have hu9 : u.rg = rg ∧ u.res = res ∧ u.room = dx rg res := ⟨hu.1.trans hx.1, hu.2.1.trans hx.2.1, hu.2.2.2.2.trans hx.2.2⟩
 refine ap (ai rfl) rfl rfl ?_
 refine ab ?_
 refine aj ?_
 refine ao ?_
 refine aa ?_
 refine ap (ak rfl) rfl rfl ?_
 refine ap (ak rfl) rfl rfl ?_
 refine ap (ak rfl) rfl rfl ?_
 refine ap (cB  Tryz.underlying83 d7 rfl rfl (cF 7 rfl) rfl (by omega)) rfl rfl ?_
 refine ap (c6 enc_nr nr0 d7 rfl (cF 7 rfl) (by omega) rfl rfl) rfl rfl ?_
 refine cj rfl ent_41 rfl (c_kE hx hr hrs hlb hK _ _ hI.2.inv (by have := dn hI.2; omega) hhb) (fun o => (.s (.s (.z)))) (List.mem_of_getElem? (i := 2) rfl) (fun s hs => sub3 (List.mem_of_getElem? (i := 4) rfl) (List.mem_of_getElem? (i := 5) rfl) (List.mem_of_getElem? (i := 1) rfl) hs) (fun ⟨Aa, ca⟩ => ?_)
 refine bX (fun w h => h.f2.untwo) ?_
 refine ap (ak rfl) rfl rfl ?_
 refine ap (aD rfl rfl) rfl rfl ?_
 refine ap (aD rfl rfl) rfl rfl ?_
 refine ap (ai rfl) rfl rfl ?_
 refine ap (ai rfl) rfl rfl ?_
 refine ab ?_
 refine aj ?_
 refine ao ?_
 refine aa ?_
 refine ap (ak rfl) rfl rfl ?_
 refine ap (ak rfl) rfl rfl ?_
 refine ap (ak rfl) rfl rfl ?_
 refine ap (cB  Tryz.underlying83 d7 rfl rfl (cF 7 rfl) rfl (by omega)) rfl rfl ?_
 refine ap (c6 enc_nr nr0 d7 rfl (cF 7 rfl) (by omega) rfl rfl) rfl rfl ?_
 refine cj rfl ent_41 rfl (c_kE hy hr hrs hlb hK _ _ hI.2.inv (by have := dn hI.2; omega) hhb) (fun o => (.s (.s (.s (.s (.z)))))) (List.mem_of_getElem? (i := 4) rfl) (fun s hs => sub3 (List.mem_of_getElem? (i := 2) rfl) (List.mem_of_getElem? (i := 3) rfl) (List.mem_of_getElem? (i := 1) rfl) hs) (fun ⟨Ab, cb⟩ => ?_)
 refine bX (fun w h => h.f4.untwo) ?_
 refine ap (ak rfl) rfl rfl ?_
 refine ap (aD rfl rfl) rfl rfl ?_
 refine ap (aD rfl rfl) rfl rfl ?_
 refine ap (ai rfl) rfl rfl ?_
 refine ap (ai rfl) rfl rfl ?_
 refine ab ?_
 refine aj ?_
 refine ao ?_
 refine aa ?_
 refine ap (ak rfl) rfl rfl ?_
 refine ap (ak rfl) rfl rfl ?_
 refine ap (ak rfl) rfl rfl ?_
 refine ap (cB  Tryz.underlying83 d7 rfl rfl (cF 7 rfl) rfl (by omega)) rfl rfl ?_
 refine ap (c6 enc_nr nr0 d7 rfl (cF 7 rfl) (by omega) rfl rfl) rfl rfl ?_
 refine cj rfl ent_41 rfl (c_kE hy hr hrs hlb hK2 _ _ hI2.inv (by have := dn hI2; omega) hhb) (fun o => .z) (List.mem_of_getElem? (i := 0) rfl) (fun s hs => sub3 (List.mem_of_getElem? (i := 2) rfl) (List.mem_of_getElem? (i := 3) rfl) (List.mem_of_getElem? (i := 1) rfl) hs) (fun ⟨Az, cz⟩ => ?_)
 refine bX (fun w h => h.untwo) ?_
 refine ap (ak rfl) rfl rfl ?_
 refine ap (aD rfl rfl) rfl rfl ?_
 refine ap (aD rfl rfl) rfl rfl ?_
 refine ap (ai rfl) rfl rfl ?_
 refine ap (ai rfl) rfl rfl ?_
 refine ab ?_
 refine aj ?_
 refine ao ?_
 refine cH (fun w h => (h.nilsl 26 1).toRdV (enc := dA) (xs := ([] : List aK))) ?_
 refine aa ?_
 refine ap (ak rfl) rfl rfl ?_
 refine cj rfl ent_41 rfl (c_kE hu9 hr hrs hlb (keep_nil _ hm) none 0 hI.2.inv (by have := dn hI.2; show hm.length + 0 ≤ _; omega) nofun) (fun o => (.s (.s (.s (.s (.s (.z))))))) (List.mem_of_getElem? (i := 5) rfl) (fun s hs => sub3 (List.mem_of_getElem? (i := 1) rfl) (by rw [hu.2.2.1, hu.2.1]; exact (List.mem_of_getElem? (i := 6) rfl)) (List.mem_of_getElem? (i := 0) rfl) hs) (fun ⟨Au, cu⟩ => ?_)
 refine bX (fun w h => h.f5.untwo) ?_
 refine ab ?_
 refine aj ?_
 refine ao ?_
 refine aa ?_
 refine ap (ak rfl) rfl rfl ?_
 refine ap (ak rfl) rfl rfl ?_
 refine ap (b8 rfl rfl) rfl rfl ?_
 refine wl_af (t := 102) rfl (fun h => h rfl) ?_
 refine ap (ak rfl) rfl rfl ?_
 refine ay rfl rfl ?_
 refine ap (ak rfl) rfl rfl ?_
 refine ay rfl rfl ?_
 refine ap (ak rfl) rfl rfl ?_
 refine ay rfl rfl ?_
 refine ap (b8 rfl rfl) rfl rfl ?_
 refine wl_af (t := 106) rfl (fun h => h rfl) ?_
 refine ap (aN rfl rfl) rfl rfl ?_
 refine ap (ak rfl) rfl rfl ?_
 refine ay rfl rfl ?_
 refine ap (ak rfl) rfl rfl ?_
 refine ay rfl rfl ?_
 refine ap (ak rfl) rfl rfl ?_
 refine ay rfl rfl ?_
 refine bi rfl ent_26 rfl (gz ls ls _ _ _ _ hlsl) (fun w hw => (aI (d5 6 rfl hw) (aI (d5 4 rfl hw) a8))) ?_
 refine bT (t := 111) (.bool true) rfl (congrArg Value.bool (decide_eq_true rfl)) ?_
 refine ay rfl rfl ?_
 refine ap (bB rfl) rfl rfl ?_
 refine ap (aN rfl rfl) rfl rfl ?_
 refine ap (ak rfl) rfl rfl ?_
 refine ay rfl rfl ?_
 refine ap (ak rfl) rfl rfl ?_
 refine ay rfl rfl ?_
 refine ap (ak rfl) rfl rfl ?_
 refine ay rfl rfl ?_
 refine bi rfl ent_26 rfl (gz ls ls _ _ _ _ hlsl) (fun w hw => (aI (d5 4 rfl hw) (aI (d5 3 rfl hw) a8))) ?_
 refine bT (t := 117) (.bool true) rfl (congrArg Value.bool (decide_eq_true rfl)) ?_
 refine ay rfl rfl ?_
 refine ap (bB rfl) rfl rfl ?_
 refine ap (aN rfl rfl) rfl rfl ?_
 refine ap (ak rfl) rfl rfl ?_
 refine ay rfl rfl ?_
 refine ap (ak rfl) rfl rfl ?_
 refine ay rfl rfl ?_
 refine bN rfl ent_36 rfl (c_vAll x hm2 (by have := dn hI2; have := hI.2; omega)) (fun w hw => (aI (cL 5 rfl hw) (aI (fo (eW 5 rfl hw)) a8))) (fun ⟨⟨o1, Ao1, co1⟩, ho1⟩ => ?_)
 refine ay rfl rfl ?_
 refine ap (ak rfl) rfl rfl ?_
 refine ay rfl rfl ?_
 refine bN rfl ent_36 rfl (c_vAll y hm2 (by have := dn hI2; have := hI.2; omega)) (fun w hw => (aI (cL 3 rfl hw) (aI (fo (eW 3 rfl hw)) a8))) (fun ⟨⟨o2, Ao2, co2⟩, ho2⟩ => ?_)
 refine ay rfl rfl ?_
 refine bi rfl ent_42 rfl (c_kit_Same_hd o1 o2 _ _ _ _ (by rw [perm_len ho1.1]; have := dn hI2; omega)) (fun w hw => (aI (d5 1 rfl hw) (aI (d5 0 rfl hw) a8))) ?_
 refine bT (t := 125) (.bool true) rfl (congrArg Value.bool (decide_eq_true (all_same hI2.inv ho1 ho2))) ?_
 refine ay rfl rfl ?_
 refine ap (bB rfl) rfl rfl ?_
 refine ap (aN rfl rfl) rfl rfl ?_
 refine ap (ak rfl) rfl rfl ?_
 refine ay rfl rfl ?_
 refine ap (ak rfl) rfl rfl ?_
 refine ay rfl rfl ?_
 refine bN rfl ent_36 rfl (c_vAll u [] (by decide)) (fun w hw => (aI (cL 1 rfl hw) (aI (fo (eW 2 rfl hw)) a8))) (fun ⟨⟨o3, Ao3, co3⟩, ho3⟩ => ?_)
 refine ay rfl rfl ?_
 refine ap (bL Tryz.underlying25 rfl) rfl rfl ?_
 refine ay rfl rfl ?_
 refine ap (b8 rfl rfl) rfl rfl ?_
 refine wl_af (t := 132) rfl (fun h => h (by rw [perm_len ho3.1]; rfl)) ?_
 refine ap (aN rfl rfl) rfl rfl ?_
 refine ap (ak rfl) rfl rfl ?_
 refine ay rfl rfl ?_
 refine ap (ak rfl) rfl rfl ?_
 refine ay rfl rfl ?_
 refine bi rfl ent_35 rfl (c_vFree x hm2 (new_ok hr hrs hlb hx) (by have := dn hI2; omega)) (fun w hw => (aI (cL 5 rfl hw) (aI (fo (eW 8 rfl hw)) a8))) ?_
 refine ay rfl rfl ?_
 refine ap (ak rfl) rfl rfl ?_
 refine ay rfl rfl ?_
 refine bi rfl ent_35 rfl (c_vFree y hm2 (new_ok hr hrs hlb hy) (by have := dn hI2; omega)) (fun w hw => (aI (cL 3 rfl hw) (aI (fo (eW 5 rfl hw)) a8))) ?_
 refine ay rfl rfl ?_
 refine ap (b8 rfl rfl) rfl rfl ?_
 refine wl_af (t := 139) rfl (fun h => h (by rw [hx.2.2, hy.2.2])) ?_
 refine ap (aN rfl rfl) rfl rfl ?_
 refine ab ?_
 refine aj ?_
 refine au rfl ?_
 refine aF ?_
 refine bw ?_
 refine aj ?_
 refine aa ?_
 refine ap (ak rfl) rfl rfl ?_
 refine ap (bF rfl rfl (by omega) (by omega)) rfl rfl ?_
 refine ap (ai rfl) rfl rfl ?_
 refine ab ?_
 refine bH ((i + 1, hm2)) ?_ ?_ ⟨rfl, trivial⟩ (by repeat (first | exact trivial | refine ⟨rfl, ?_⟩)) (fun w h => (h.weak (.cons _ (.cons _ (.cons _ (.cons _ (.cons _ (.cons_cons _ (.cons _ (.cons _ (.cons_cons _ (.cons _ (.cons _ (.cons_cons _ .slnil)))))))))))) (fun s hs => .tail _ (.tail _ (.tail _ (hs))))).f2.f1.f2)
 exact ⟨by show i + 1 ≤ _; omega, hI2⟩
 show rows.length - (i + 1) < rows.length - i
 omega
 refine aW (i := 8) rfl ah (bB rfl) (cE 1) av rfl (ae (ae (aO (ae (bC (aO (ae aq))))))) (by kernel_rfl) rfl ?_
 refine dL (by kernel_rfl) ?_
 refine aj ?_
 refine ax rfl ?_
 refine ao ?_
 refine aa ?_
 refine ap (ai rfl) rfl rfl ?_
 refine ab ?_
 refine aj ?_
 refine aB ?_
 refine aw ?_
 refine aM ?_
 refine aw ?_
 refine bk ?_
 refine aM ?_
 refine aw ?_
 refine aG (ts := [4]) rfl rfl rfl (fun w hw => ?_)
 exact ⟨(), rfl, hw.base, (hw.weak (List.nil_sublist _) (fun s hs => hs)).toNews⟩
 refine ab ?_
 refine aj ?_
 refine au rfl ?_
 refine bP ?_
 refine bb ?_
 refine a6 ?_
 refine bc ?_
 refine aj ?_
 refine ao ?_
 refine aa ?_
 refine ap (ai rfl) rfl rfl ?_
 refine ab ?_
 refine aj ?_
 refine aB ?_
 refine aG (ts := [4]) rfl rfl rfl (fun w hw => ?_)
 exact ⟨(), rfl, hw.base, (hw.weak (List.nil_sublist _) (fun s hs => hs)).toNews⟩
 refine ay rfl rfl ?_
 refine ap (bB rfl) rfl rfl ?_
 refine ap (aN rfl rfl) rfl rfl ?_
 refine ab ?_
 refine aj ?_
 refine ax rfl ?_
 refine ao ?_
 refine aa ?_
 refine ap (ai rfl) rfl rfl ?_
 refine ab ?_
 refine aj ?_
 refine aB ?_
 refine aw ?_
 refine aG (ts := [4]) rfl rfl rfl (fun w hw => ?_)
 exact ⟨(), rfl, hw.base, (hw.weak (List.nil_sublist _) (fun s hs => hs)).toNews⟩
 refine ao ?_
 refine aa ?_
 refine bu rfl rfl rfl (fun b13 => ?_)
 refine ap (ai rfl) rfl rfl ?_
 refine ab ?_
 refine aj ?_
 refine ao ?_
 refine ao ?_
 refine aa ?_
 refine aU rfl ent_30 c_lives14 rfl ?_
 refine bT (t := 17) (.bool true) rfl (congrArg Value.bool rfl) ?_
 refine ap (bB rfl) rfl rfl ?_
 refine ab ?_
 refine aj ?_
 refine au rfl ?_
 refine aF ?_
 refine aj ?_
 refine ao ?_
 refine ao ?_
 refine aa ?_
 refine ap (ak rfl) rfl rfl ?_
 refine ap (bL Tryz.underlying83 rfl) rfl rfl ?_
 refine ap (eA rfl rfl) rfl rfl ?_
 refine aC (t := 21) rfl (fun h3_2 => ?_) (fun h3_2 => ?_)
 refine ap (ak rfl) rfl rfl ?_
 refine aR rfl rfl rfl rfl ?_
 refine aR rfl rfl rfl rfl ?_
 refine aR rfl rfl rfl rfl ?_
 refine ap (aT rfl rfl) rfl rfl ?_
 refine ab ?_
 refine aj ?_
 refine ax rfl ?_
 refine ao ?_
 refine aa ?_
 refine ap (ai rfl) rfl rfl ?_
 refine ab ?_
 refine aj ?_
 refine aB ?_
 refine aw ?_
 refine aG (ts := [4]) rfl rfl rfl (fun w hw => ?_)
 exact ⟨(), rfl, hw.base, (hw.weak (List.nil_sublist _) (fun s hs => hs)).toNews⟩
 refine ap (ak rfl) rfl rfl ?_
 refine ay rfl rfl ?_
 refine ap (aJ 0 d8 rfl rfl rfl rfl) rfl rfl ?_
 refine ay rfl rfl ?_
 refine bi rfl ent_32 rfl (c_light14 rg res.length A c [] none 0 hr.1 hres (by decide)) (fun w hw => (aI (rd_none) (aI (rd_rall nofun) a8))) ?_
 refine bh (t := 24) rfl (fun h3_5 => ?_) (fun h3_5 => ?_)
 have hl6 := light_nil h3_5
 have hlb : res.length ≤ 1000000000000 := by omega
 refine ay rfl rfl ?_
 refine ap (bB rfl) rfl rfl ?_
 refine ap (aN rfl rfl) rfl rfl ?_
 refine ab ?_
 refine aj ?_
 refine au rfl ?_
 refine aF ?_
 refine aj ?_
 refine ao ?_
 refine aa ?_
 refine ap (aJ 0 d8 rfl rfl rfl rfl) rfl rfl ?_
 refine bi rfl ent_31 rfl (c_vNewbad rg res A c hr hrs hlb hT) (fun w hw => (aI (cL 0 rfl hw) a8)) ?_
 refine ap (ak rfl) rfl rfl ?_
 refine ap (aD rfl rfl) rfl rfl ?_
 refine ap (aD rfl rfl) rfl rfl ?_
 refine ap (ai rfl) rfl rfl ?_
 refine ap (ai rfl) rfl rfl ?_
 refine ab ?_
 refine aj ?_
 refine ao ?_
 refine aa ?_
 refine ap (aJ 0 d8 rfl rfl rfl rfl) rfl rfl ?_
 refine bi rfl ent_31 rfl (c_vNewbad rg res A c hr hrs hlb hT) (fun w hw => (aI (cL 0 rfl hw) a8)) ?_
 refine ap (ak rfl) rfl rfl ?_
 refine ap (aD rfl rfl) rfl rfl ?_
 refine ap (aD rfl rfl) rfl rfl ?_
 refine ap (ai rfl) rfl rfl ?_
 refine ap (ai rfl) rfl rfl ?_
 refine ab ?_
 refine aj ?_
 refine ao ?_
 refine ao ?_
 refine aa ?_
 refine ap (ak rfl) rfl rfl ?_
 refine ap (b8 rfl rfl) rfl rfl ?_
 refine fW (t := 38) rfl hT ?_
 refine ap (ak rfl) rfl rfl ?_
 refine aR rfl rfl rfl rfl ?_
 refine aR rfl rfl rfl rfl ?_
 refine ap (aT rfl rfl) rfl rfl ?_
 refine ap (ak rfl) rfl rfl ?_
 refine aR rfl rfl rfl rfl ?_
 refine aR rfl rfl rfl rfl ?_
 refine ap (aT rfl rfl) rfl rfl ?_
 refine ap (ak rfl) rfl rfl ?_
 refine aR rfl rfl rfl rfl ?_
 refine aR rfl rfl rfl rfl ?_
 refine ap (aT rfl rfl) rfl rfl ?_
 refine ab ?_
 refine aj ?_
 refine ax rfl ?_
 refine ao ?_
 refine aa ?_
 refine ap (ak rfl) rfl rfl ?_
 refine ap (ak rfl) rfl rfl ?_
 refine ap (eT rfl rfl) rfl rfl ?_
 refine fW (t := 53) rfl rfl ?_
 refine ap (ai rfl) rfl rfl ?_
 refine ab ?_
 refine aj ?_
 refine aB ?_
 refine aw ?_
 refine aG (ts := [4]) rfl rfl rfl (fun w hw => ?_)
 exact ⟨(), rfl, hw.base, (hw.weak (List.nil_sublist _) (fun s hs => hs)).toNews⟩
 refine ay rfl rfl ?_
 refine ap (bB rfl) rfl rfl ?_
 refine ap (aN rfl rfl) rfl rfl ?_
 refine ab ?_
 refine aj ?_
 refine ax rfl ?_
 refine ao ?_
 refine aa ?_
 refine ap (ai rfl) rfl rfl ?_
 refine ab ?_
 refine aj ?_
 refine aB ?_
 refine aw ?_
 refine aG (ts := [4]) rfl rfl rfl (fun w hw => ?_)
 exact ⟨(), rfl, hw.base, (hw.weak (List.nil_sublist _) (fun s hs => hs)).toNews⟩
end Go.Proofs.YtnpdgmoeoidppaaGreat
