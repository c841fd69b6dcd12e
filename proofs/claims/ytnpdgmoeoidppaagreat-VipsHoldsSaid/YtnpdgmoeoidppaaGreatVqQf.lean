import Derived.Test.YtnpdgmoeoidppaaGreatVgQf
import Derived.Test.YtnpdgmoeoidppaaGreatVkQf
import Derived.Test.YtnpdgmoeoidppaaGreatVnQf
/- vips: what fails goes on failing, in plain words -/
namespace Go.Proofs.YtnpdgmoeoidppaaGreat
open Go.RowKit Go.Shelf
set_option linter.unusedVariables false
set_option linter.unusedSimpArgs false

theorem probe_all {n : aU} {size : Nat} {i : Int} (h : 0 ≤ i ∧ i < size) : i ∈ dM n size := by
  refine List.mem_map.2 ⟨((i - ew n size) % size).toNat, ?_, ?_⟩
  · have h0 := Int.emod_nonneg (i - ew n size) (show (size : Int) ≠ 0 by omega)
    have h1 := Int.emod_lt_of_pos (i - ew n size) (show (0 : Int) < size by omega)
    rw [List.mem_range]; omega
  · have h0 := Int.emod_nonneg (i - ew n size) (show (size : Int) ≠ 0 by omega)
    rw [atH, if_neg (by omega), Int.toNat_of_nonneg h0, Int.add_emod, Int.emod_emod_of_dvd _ (Int.dvd_refl _), ← Int.add_emod]
    rw [show ew n size + (i - ew n size) = i by omega]
    exact Int.emod_eq_of_lt h.1 h.2
/-- No place is free, or the room is out: whatever the name. -/
def FailV (v : Vp) (hm : Hm) : Prop := v.room - hm.length = 0 ∨ ∀ i : Int, 0 ≤ i → i < bD v.rg → d8 v.res (cg hm) (atR v.rg i).1 = false
theorem probe_none {v : Vp} {hm : Hm} {n : aU} : bQ v (cg hm) n = none ↔ ∀ i : Int, 0 ≤ i → i < bD v.rg → d8 v.res (cg hm) (atR v.rg i).1 = false := by
  rw [bQ, List.find?_eq_none]
  constructor
  · intro h i h1 h2
    simpa using h i (probe_all ⟨h1, h2⟩)
  · intro h i hi
    obtain ⟨h1, h2⟩ := gy hi
    rw [h i h1 h2]; decide
theorem give_fail {v : Vp} {hm : Hm} {n : aU} (h : bB n = true) (hf : FailV v hm) : (bN v hm (cg hm) n).2.1 = hm ∧ ((bN v hm (cg hm) n).1.2 = 0 ↔ (co hm (aX n)).isSome = true) := by
  by_cases h2 : (co hm (aX n)).isSome = true
  · rw [cX h h2]; exact ⟨rfl, fun _ => h2, fun _ => rfl⟩
  · have h2 : (co hm (aX n)).isSome = false := by simpa using h2
    by_cases h3 : v.room - hm.length = 0
    · rw [cK h h2 h3]; exact ⟨rfl, fun e => absurd (show (10 : Int) = 0 from e) (by decide), fun e => by rw [h2] at e; cases e⟩
    · rw [cn h h2 h3 (probe_none.2 (hf.resolve_left h3))]
      exact ⟨rfl, fun e => absurd (show (10 : Int) = 0 from e) (by decide), fun e => by rw [h2] at e; cases e⟩
theorem fail_of {v : Vp} {hm : Hm} {n : aU} (h : bB n = true) (he : (bN v hm (cg hm) n).1.2 ≠ 0) : FailV v hm := by
  by_cases h2 : (co hm (aX n)).isSome = true
  · rw [cX h h2] at he; exact absurd rfl he
  · have h2 : (co hm (aX n)).isSome = false := by simpa using h2
    by_cases h3 : v.room - hm.length = 0
    · exact .inl h3
    · cases hg : bQ v (cg hm) n with
      | none => exact .inr (probe_none.1 hg)
      | some i => rw [cn h h2 h3 hg] at he; exact absurd rfl he

theorem lkp_mem {α β : Type} [DecidableEq α] {m : List (α × β)} {a : α} : (co m a).isSome = true ↔ a ∈ m.map fun p => p.1 := by
  have h := lkp_none_iff (m := m) (a := a)
  cases hl : co m a with
  | none => rw [hl] at h; simp only [Option.isSome_none, Bool.false_eq_true, false_iff]; exact h.1 rfl
  | some x => rw [hl] at h; simp only [Option.isSome_some, true_iff]; exact Decidable.not_not.1 fun e => by cases h.2 e
def hasK (hm : Hm) (n : aU) : Prop := aX n ∈ hm.map fun p => p.1
/-- What a name that is given leaves: the list as it was, or one more. -/
theorem g8 {v : Vp} {hm : Hm} {n : aU} (h : bB n = true) : ((bN v hm (cg hm) n).2.1 = hm ∧ ((bN v hm (cg hm) n).1.2 = 0 → hasK hm n)) ∨ (∃ i : Int, 0 ≤ i ∧ i < bD v.rg ∧ d8 v.res (cg hm) (atR v.rg i).1 = true ∧ ¬ hasK hm n ∧ (bN v hm (cg hm) n).1 = ((atR v.rg i).1, 0) ∧ (bN v hm (cg hm) n).2.1 = hm ++ [(aX n, ⟨n, (atR v.rg i).1⟩)]) := by
  by_cases h2 : (co hm (aX n)).isSome = true
  · rw [cX h h2]; exact .inl ⟨rfl, fun _ => lkp_mem.1 h2⟩
  · have h3 : (co hm (aX n)).isSome = false := by simpa using h2
    by_cases h4 : v.room - hm.length = 0
    · rw [cK h h3 h4]; exact .inl ⟨rfl, fun e => absurd (show (10 : Int) = 0 from e) (by decide)⟩
    · cases hg : bQ v (cg hm) n with
      | none => rw [cn h h3 h4 hg]; exact .inl ⟨rfl, fun e => absurd (show (10 : Int) = 0 from e) (by decide)⟩
      | some i =>
        rw [cn h h3 h4 hg]
        have hi := gy (List.mem_of_find?_eq_some hg)
        have hf : d8 v.res (cg hm) (atR v.rg i).1 = true := by
          have := List.find?_some hg
          exact this
        exact .inr ⟨i, hi.1, hi.2, hf, fun e => h2 (lkp_mem.2 e), rfl, rfl⟩
theorem give_not {v : Vp} {hm : Hm} {n : aU} (h : bB n = true) (hf : ¬ FailV v hm) : (bN v hm (cg hm) n).1.2 = 0 := Decidable.not_not.1 fun e => hf (fail_of h e)
def eY (hm : Hm) (l : List aU) (n : aU) : List aU := if (co hm (aX n)).isSome = false ∧ aX n ∉ l.map aX then l ++ [n] else l
def gh (hm : Hm) (l : List aU) (hosts : List aU) : List aU := hosts.foldl (eY hm) l
theorem keepF_fail {v : Vp} {hm : Hm} {n : aU} {l : List aU} (h : bB n = true) (hf : FailV v hm) : fZ v (hm, l) n = (hm, eY hm l n) := by
  obtain ⟨h1, h2⟩ := give_fail h hf
  unfold fZ eY
  refine Prod.ext h1 ?_
  by_cases e : (co hm (aX n)).isSome = true
  · show (if _ then _ else _) = (if _ then _ else _)
    rw [if_neg (fun q => q.1 (h2.2 e)), if_neg (fun q => by rw [e] at q; cases q.1)]
  · have e2 : (co hm (aX n)).isSome = false := by simpa using e
    have e3 : (bN v hm (cg hm) n).1.2 ≠ 0 := fun q => e (h2.1 q)
    show (if _ then _ else _) = (if _ then _ else _)
    by_cases e4 : aX n ∉ l.map aX
    · rw [if_pos ⟨e3, e4⟩, if_pos ⟨e2, e4⟩]
    · rw [if_neg (fun q => e4 q.2), if_neg (fun q => e4 q.2)]
theorem lostF_had {hm : Hm} {n : aU} {l : List aU} (hk : hasK hm n) : eY hm l n = l := by rw [eY, if_neg]; rw [lkp_mem.2 hk]; exact fun q => nomatch q.1
theorem fH {hm : Hm} : ∀ {hosts l : List aU}, (∀ n ∈ hosts, hasK hm n) → gh hm l hosts = l
  | [], _, _ => rfl
  | n :: t, l, h => by
    show gh hm (eY hm l n) t = l
    rw [lostF_had (h n (.head _)), fH fun x hx => h x (.tail _ hx)]
structure Kept (v : Vp) (hm : Hm) (hosts : List aU) (r : Hm × List aU) : Prop where
  lost : r.2 = gh r.1 [] hosts
  full : FailV v r.1 ∨ ∀ n ∈ hosts, hasK r.1 n
  more : ∃ m, r.1 = hm ++ m
theorem e7 {v : Vp} : ∀ {hosts pre : List aU} {hm : Hm} {l : List aU}, (∀ n ∈ hosts, bB n = true) → l = gh hm [] pre → (FailV v hm ∨ ∀ n ∈ pre, hasK hm n) → Kept v hm (pre ++ hosts) (hosts.foldl (fZ v) (hm, l))
  | [], pre, hm, l, _, hl, hf => by rw [List.append_nil]; exact ⟨hl, hf, [], by simp⟩
  | n :: t, pre, hm, l, h, hl, hf => by
    have hn := h n (.head _)
    have ht : ∀ x ∈ t, bB x = true := fun x hx => h x (.tail _ hx)
    rw [List.foldl_cons, show pre ++ n :: t = (pre ++ [n]) ++ t by simp]
    by_cases hF : FailV v hm
    · rw [keepF_fail hn hF]
      refine e7 ht ?_ (.inl hF)
      rw [hl, gh, gh, List.foldl_append]; rfl
    · have hp := hf.resolve_left hF
      have h0 := give_not hn hF
      have hl0 : l = [] := by rw [hl, fH hp]
      have hk : fZ v (hm, l) n = ((bN v hm (cg hm) n).2.1, l) := Prod.ext rfl (if_neg (fun q : _ ≠ _ ∧ _ => q.1 h0))
      rw [hk]
      rcases g8 (v := v) (hm := hm) hn with ⟨g1, g2⟩ | ⟨i, _, _, _, _, _, g1⟩
      · rw [g1]
        have hall : ∀ x ∈ pre ++ [n], hasK hm x := fun x hx => (List.mem_append.1 hx).elim (hp x) (fun e => by rw [List.mem_singleton.1 e]; exact g2 h0)
        exact e7 ht (by rw [fH hall]; exact hl0) (.inr hall)
      · rw [g1]
        have hall : ∀ x ∈ pre ++ [n], hasK (hm ++ [(aX n, ⟨n, (atR v.rg i).1⟩)]) x := fun x hx => by
          unfold hasK
          rw [List.map_append, List.mem_append]
          exact (List.mem_append.1 hx).elim (fun e => .inl (hp x e)) (fun e => by rw [List.mem_singleton.1 e]; exact .inr (.head _))
        obtain ⟨q1, q2, m, q3⟩ := e7 (v := v) (pre := pre ++ [n]) (hm := hm ++ [(aX n, ⟨n, (atR v.rg i).1⟩)]) (l := l) ht (by rw [fH hall]; exact hl0) (.inr hall)
        exact ⟨q1, q2, _, by rw [q3, List.append_assoc]⟩
theorem keepG_keys {v : Vp} : ∀ {hosts : List aU} {hm : Hm} {l : List aU}, (∀ n ∈ hosts, bB n = true) → ∀ k ∈ (hosts.foldl (fZ v) (hm, l)).1.map (fun p => p.1), k ∈ hm.map (fun p => p.1) ∨ k ∈ hosts.map aX
  | [], _, _, _, k, hk => .inl hk
  | n :: t, hm, l, h, k, hk => by
    rw [List.foldl_cons] at hk
    have hn := h n (.head _)
    rcases keepG_keys (fun x hx => h x (.tail _ hx)) k hk with h1 | h1
    · have h1 : k ∈ (bN v hm (cg hm) n).2.1.map fun p => p.1 := h1
      rcases g8 (v := v) (hm := hm) hn with ⟨g1, _⟩ | ⟨i, _, _, _, _, _, g1⟩
      · rw [g1] at h1; exact .inl h1
      · rw [g1, List.map_append, List.mem_append] at h1
        exact h1.elim .inl (fun e => .inr (by rw [List.map_cons, List.map_nil, List.mem_singleton] at e; rw [e]; exact .head _))
    · exact .inr (.tail _ h1)
theorem stay_keys {hm : Hm} {hosts : List aU} : ∀ k ∈ (ep hm hosts).map (fun p => p.1), k ∈ hosts.map aX := fun k hk => by
  obtain ⟨p, hp, rfl⟩ := List.mem_map.1 hk
  exact of_decide_eq_true (List.mem_filter.1 hp).2
theorem iu {hosts : List aU} (h : ¬ hosts.all bB = false) : ∀ n ∈ hosts, bB n = true := List.all_eq_true.1 (by simpa using h)
theorem keep_kept {v : Vp} {hm : Hm} {hosts : List aU} (h : ¬ hosts.all bB = false) : Kept v (ep hm hosts) hosts ((cU v hm hosts).2, (cU v hm hosts).1.1) ∧ (cU v hm hosts).1.2 = 0 ∧ ∀ k ∈ (cU v hm hosts).2.map (fun p => p.1), k ∈ hosts.map aX := by
  have e : cU v hm hosts = (((eA v (ep hm hosts) hosts).2, 0), (eA v (ep hm hosts) hosts).1) := if_neg h
  rw [e]
  exact ⟨e7 (pre := []) (iu h) rfl (.inr nofun), rfl, fun k hk => (keepG_keys (iu h) k hk).elim (stay_keys k) id⟩
theorem perm_sorted {α : Type} {R : α → α → Prop} (hR : ∀ a b, R a b → R b a → a = b) : ∀ {xs ys : List α}, xs.Perm ys → xs.Pairwise R → ys.Pairwise R → xs = ys
  | [], ys, h, _, _ => (List.nil_perm.1 h).symm
  | x :: xs, [], h, _, _ => absurd h.length_eq (by simp)
  | x :: xs, y :: ys, h, h1, h2 => by
    have e : x = y := by
      rcases List.mem_cons.1 (h.mem_iff.1 (List.mem_cons_self : x ∈ x :: xs)) with e | hx
      · exact e
      · rcases List.mem_cons.1 (h.mem_iff.2 (List.mem_cons_self : y ∈ y :: ys)) with e | hy
        · exact e.symm
        · exact hR _ _ ((List.pairwise_cons.1 h1).1 _ hy) ((List.pairwise_cons.1 h2).1 _ hx)
    subst e
    rw [perm_sorted hR (List.Perm.cons_inv h) (List.pairwise_cons.1 h1).2 (List.pairwise_cons.1 h2).2]
theorem cmpA_anti {a b : Ad} (h1 : ¬ eR b a < 0) (h2 : ¬ eR a b < 0) : kdA a = kdA b ∧ a.hi = b.hi ∧ a.lo = b.lo := by
  rw [ia] at h1 h2; omega
theorem kd_inj {a b : Ad} (h : kdA a = kdA b) : a.six = b.six := by
  revert h; unfold kdA; cases a.six <;> cases b.six <;> simp
theorem cmpA_eq {a b : Ad} (h1 : ¬ eR b a < 0) (h2 : ¬ eR a b < 0) : a = b := by
  obtain ⟨q1, q2, q3⟩ := cmpA_anti h1 h2
  have q0 := kd_inj q1
  cases a; cases b; cases q0; cases q2; cases q3; rfl
/-- Rows that rise by their addresses, each address once, are the same if their members are. -/
theorem hd_sorted {xs ys zs : List Hd} (hp : xs.Perm zs) (hs : xs.Pairwise fun a b => ¬ eR b.ad a.ad < 0) (hz : ys.Perm zs) (hy : ys.Pairwise fun a b => ¬ eR b.ad a.ad < 0) (hu : ∀ a ∈ zs, ∀ b ∈ zs, a.ad = b.ad → a = b) : xs = ys := by
  have hx2 : xs.Pairwise fun a b => a ∈ zs ∧ b ∈ zs ∧ ¬ eR b.ad a.ad < 0 := by
    rw [List.pairwise_iff_getElem] at hs ⊢
    exact fun i j hi hj hij => ⟨hp.mem_iff.1 (List.getElem_mem hi), hp.mem_iff.1 (List.getElem_mem hj), hs i j hi hj hij⟩
  have hy2 : ys.Pairwise fun a b => a ∈ zs ∧ b ∈ zs ∧ ¬ eR b.ad a.ad < 0 := by
    rw [List.pairwise_iff_getElem] at hy ⊢
    exact fun i j hi hj hij => ⟨hz.mem_iff.1 (List.getElem_mem hi), hz.mem_iff.1 (List.getElem_mem hj), hy i j hi hj hij⟩
  exact perm_sorted (fun a b h1 h2 => hu a h1.1 b h1.2.1 (cmpA_eq h1.2.2 h2.2.2)) (hp.trans hz.symm) hx2 hy2

theorem ads_uniq {hm : Hm} (h : PInv hm) : ∀ a ∈ hm.map (fun p => p.2), ∀ b ∈ hm.map (fun p => p.2), a.ad = b.ad → a = b := fun a ha b hb e => by
  obtain ⟨p, hp, rfl⟩ := List.mem_map.1 ha
  obtain ⟨q, hq, rfl⟩ := List.mem_map.1 hb
  rw [nd_inj h.ads p hp q hq e]
theorem all_same {hm : Hm} (h : PInv hm) {o1 o2 : List Hd} (h1 : o1.Perm (hm.map (·.2)) ∧ o1.Pairwise fun a b => ¬ eR b.ad a.ad < 0) (h2 : o2.Perm (hm.map (·.2)) ∧ o2.Pairwise fun a b => ¬ eR b.ad a.ad < 0) : o1 = o2 :=
  hd_sorted h1.1 h1.2 h2.1 h2.2 (ads_uniq h)

end Go.Proofs.YtnpdgmoeoidppaaGreat

/- vips: who is held where, in plain words -/
namespace Go.Proofs.YtnpdgmoeoidppaaGreat
open Go.RowKit Go.Shelf
set_option linter.unusedVariables false
set_option linter.unusedSimpArgs false

theorem nd_len {α : Type} [DecidableEq α] : ∀ {l m : List α}, l.Nodup → (∀ a ∈ l, a ∈ m) → l.length ≤ m.length
  | [], _, _, _ => Nat.zero_le _
  | a :: l, m, hn, h => by
    rw [List.nodup_cons] at hn
    have ha := h a (.head _)
    have h1 := nd_len (l := l) (m := m.erase a) hn.2 fun b hb => (List.mem_erase_of_ne (fun e : b = a => hn.1 (e ▸ hb))).2 (h b (.tail _ hb))
    have h2 := List.length_erase_of_mem ha
    have h3 := List.length_pos_of_mem ha
    rw [List.length_cons]; omega
theorem cut_add {n m x i : Nat} (hx : x < 2 ^ n) (hm : m ≤ n) (hc : ez n m x = x) (hi : i < 2 ^ (n - m)) : x + i < 2 ^ n ∧ ez n m (x + i) = x := by
  obtain ⟨q, hq⟩ : ∃ q, x = q * 2 ^ (n - m) := ⟨x / 2 ^ (n - m), by rw [ez] at hc; exact hc.symm⟩
  have hpos : 0 < 2 ^ (n - m) := Nat.two_pow_pos _
  have hpow : 2 ^ m * 2 ^ (n - m) = 2 ^ n := by rw [← Nat.pow_add]; congr 1; omega
  have hq2 : q < 2 ^ m := by
    rw [hq, ← hpow] at hx; exact Nat.lt_of_mul_lt_mul_right hx
  have h3 : (q + 1) * 2 ^ (n - m) ≤ 2 ^ m * 2 ^ (n - m) := Nat.mul_le_mul_right _ hq2
  rw [Nat.succ_mul] at h3
  constructor
  · rw [← hpow, hq]; omega
  · rw [ez, hq, Nat.add_comm, Nat.add_mul_div_right _ _ hpos, Nat.div_eq_of_lt hi, Nat.zero_add]
theorem size_pow {r : Rg} (hz : cC r = 0) {m : Nat} (hm : r.bits = m) : bD r ≤ 2 ^ ((ci r.base).toNat - m) := by
  have hl := fP hz
  rw [bD, if_neg (fun h => h hz)]
  split
  · rw [show (ci r.base - r.bits).toNat = (ci r.base).toNat - m by omega]; exact Nat.le_refl _
  · rw [show (65536 : Nat) = 2 ^ 16 by decide]
    exact Nat.pow_le_pow_right (by decide) (by omega)
/-- A place of a range: what it is, and that the range has it. -/
theorem at_ok {r : Rg} {i : Int} (hr : RgOk r) (hz : cC r = 0) (h0 : 0 ≤ i) (hlt : i < bD r) : cp r.base i = (⟨r.base.six, r.base.hi, r.base.lo + i⟩, true) ∧ bT r ⟨r.base.six, r.base.hi, r.base.lo + i⟩ = true ∧ r.base.lo + i ≤ 18446744073709551615 := by
  have h64 : (2 : Nat) ^ 64 = 18446744073709551616 := by decide
  have h32 : (2 : Nat) ^ 32 = 4294967296 := by decide
  obtain ⟨z1, z2, z3, z4⟩ := fP hz
  obtain ⟨m, hm⟩ : ∃ m : Nat, r.bits = m := ⟨r.bits.toNat, by omega⟩
  obtain ⟨j, rfl⟩ : ∃ j : Nat, i = j := ⟨i.toNat, by omega⟩
  have hs := size_pow hz hm
  have hs2 := d6 r
  obtain ⟨⟨s, hi, lo⟩, bits⟩ := r
  obtain ⟨⟨a1, a2, a3, a4⟩, _⟩ := hr
  dsimp only at *
  subst hm
  cases s with
  | true =>
    rw [ci, if_pos rfl] at z3 hs
    rw [gu rfl (by omega) ⟨a1, a2⟩ ⟨a3, a4⟩] at z4
    have g1 := congrArg Ad.hi z4; have g2 := congrArg Ad.lo z4
    dsimp only at g1 g2
    have hj : j < 2 ^ (64 - (m - 64)) := by
      by_cases h : m ≤ 64
      · rw [show 64 - (m - 64) = 64 by omega]; omega
      · rw [show 64 - (m - 64) = (128 : Int).toNat - m by omega]; omega
    obtain ⟨c1, c2⟩ := cut_add (n := 64) (m := m - 64) (x := lo.toNat) (i := j) (by omega) (by omega) (by omega) hj
    have hck : bX ⟨true, hi, lo + j⟩ = 0 := by rw [bX, if_neg]; exact fun h => nomatch h.1
    refine ⟨?_, ?_, by omega⟩
    · rw [cp, if_neg (fun h => h z1), if_neg]
      · rw [gF, if_pos rfl]
        congr 1
        simp only [hiS, loS, loC, Ad.mk.injEq, true_and]
        omega
      · rw [carA, if_pos rfl, gF, if_pos rfl]
        simp only [hiC, loC]
        have : bX ⟨true, hiS ⟨true, hi, lo⟩ j, loS ⟨true, hi, lo⟩ j⟩ = 0 := by rw [bX, if_neg]; exact fun h => nomatch h.1
        rw [this]
        omega
    · rw [bT, decide_eq_true hz, decide_eq_true hck, decide_eq_true rfl, decide_eq_true]; · rfl
      rw [gu rfl (by omega) ⟨a1, a2⟩ (by dsimp only; omega)]
      dsimp only
      rw [show (lo + (j : Int)).toNat = lo.toNat + j by omega, c2, g1]
      simp only [Ad.mk.injEq, true_and]; omega
  | false =>
    have hlo : lo < 4294967296 ∧ hi = 0 := by
      unfold bX at z1
      split at z1
      · exact absurd z1 (by decide)
      · rename_i q; have q2 : ¬ (hi ≠ 0 ∨ 4294967296 ≤ lo) := fun x => q ⟨rfl, x⟩; omega
    obtain ⟨b1, rfl⟩ := hlo
    rw [ci, if_neg (fun h => nomatch h)] at z3 hs
    rw [fo rfl (by omega) ⟨a3, b1⟩] at z4
    have g2 := congrArg Ad.lo z4
    dsimp only at g2
    have hj : j < 2 ^ (32 - m) := by rw [show 32 - m = (32 : Int).toNat - m by omega]; omega
    obtain ⟨c1, c2⟩ := cut_add (n := 32) (m := m) (x := lo.toNat) (i := j) (by omega) (by omega) (by omega) hj
    have hck : bX ⟨false, 0, lo + j⟩ = 0 := by rw [bX, if_neg]; exact fun h => h.2.elim (fun e => e rfl) (fun e => by dsimp only at e; omega)
    refine ⟨?_, ?_, by omega⟩
    · have hl : loS ⟨false, 0, lo⟩ j = lo + j := by simp only [loS]; omega
      rw [cp, if_neg (fun h => h z1), if_neg]
      · rw [gF, if_neg (fun h => nomatch h), hl]
      · rw [carA, if_neg (fun h => nomatch h), gF, if_neg (fun h => nomatch h), hl, hck]
        simp only [loC]
        omega
    · rw [bT, decide_eq_true hz, decide_eq_true hck, decide_eq_true rfl, decide_eq_true]; · rfl
      rw [fo rfl (by omega) (by dsimp only; omega)]
      dsimp only
      rw [show (lo + (j : Int)).toNat = lo.toNat + j by omega, c2]
      simp only [Ad.mk.injEq, true_and]; omega
theorem at_add {r : Rg} {i : Int} (h0 : 0 ≤ i) (hi : i < bD r) : atR r i = cp r.base i := if_neg (by omega)
def de (r : Rg) (a : Ad) : Bool := bT r a && (decide (a.hi = r.base.hi) && decide (IntKind.u64.wrap (a.lo - r.base.lo) < bD r))
theorem idx_at {r : Rg} {i : Int} (hr : RgOk r) (hz : cC r = 0) (h0 : 0 ≤ i) (hi : i < bD r) : de r (atR r i).1 = true := by
  obtain ⟨h1, h2, h3⟩ := at_ok hr hz h0 hi
  rw [at_add h0 hi, h1, de, h2, decide_eq_true rfl, decide_eq_true]; · rfl
  dsimp only
  rw [show r.base.lo + i - r.base.lo = i by omega, da (by omega) (by have := d6 r; omega)]; exact hi
/-- The places that are nobody's. -/
def plcV (v : Vp) : List Ad := (dn v.rg).filter (dz v.res)
theorem each_nodup {r : Rg} (hr : RgOk r) (hz : cC r = 0) : (dn r).Nodup := by
  rw [dn, List.Nodup, List.pairwise_map]
  refine List.Pairwise.imp_of_mem (fun {a b} ha hb hne e => ?_) List.nodup_range
  rw [List.mem_range] at ha hb
  rw [(at_ok hr hz (Int.natCast_nonneg a) (by omega)).1, (at_ok hr hz (Int.natCast_nonneg b) (by omega)).1] at e
  have := congrArg Ad.lo e
  dsimp only at this
  exact hne (by omega)
theorem each_mem {r : Rg} {a : Ad} : a ∈ dn r ↔ ∃ i : Int, 0 ≤ i ∧ i < bD r ∧ a = (atR r i).1 := by
  rw [dn, List.mem_map]
  constructor
  · rintro ⟨k, hk, rfl⟩
    rw [List.mem_range] at hk
    exact ⟨k, Int.natCast_nonneg k, by omega, by rw [at_add (by omega) (by omega)]⟩
  · rintro ⟨i, h0, hi, rfl⟩
    exact ⟨i.toNat, List.mem_range.2 (by omega), by rw [at_add h0 hi, Int.toNat_of_nonneg h0]⟩
structure HInv (v : Vp) (hm : Hm) : Prop where
  inv : PInv hm
  pl : ∀ p ∈ hm, p.2.ad ∈ plcV v
theorem HInv.nil {v : Vp} : HInv v [] := ⟨⟨.nil, .nil, nofun⟩, nofun⟩
theorem HInv.filter {v : Vp} {hm : Hm} (h : HInv v hm) (P : aU × Hd → Bool) : HInv v (hm.filter P) := ⟨h.inv.filter P, fun p hp => h.pl p (List.mem_filter.1 hp).1⟩
theorem HInv.give {v : Vp} {hm : Hm} {n : aU} (h : HInv v hm) (hn : bB n = true) : HInv v (bN v hm (cg hm) n).2.1 := by
  refine ⟨(give_inv h.inv n).2.1, fun p hp => ?_⟩
  rcases g8 (v := v) (hm := hm) hn with ⟨g1, _⟩ | ⟨i, h1, h2, h3, _, _, g1⟩
  · rw [g1] at hp; exact h.pl p hp
  · rw [g1, List.mem_append] at hp
    rcases hp with hp | hp
    · exact h.pl p hp
    · rw [List.mem_singleton.1 hp]
      simp only [d8, Bool.and_eq_true] at h3
      exact List.mem_filter.2 ⟨each_mem.2 ⟨i, h1, h2, rfl⟩, h3.2⟩
theorem HInv.fold {v : Vp} : ∀ {hosts : List aU} {s : Hm × List aU}, (∀ n ∈ hosts, bB n = true) → HInv v s.1 → HInv v (hosts.foldl (fZ v) s).1
  | [], _, _, h => h
  | n :: t, s, hh, h => HInv.fold (hosts := t) (s := fZ v s n) (fun x hx => hh x (.tail _ hx)) (h.give (hh n (.head _)))
theorem HInv.keep {v : Vp} {hm : Hm} {hosts : List aU} (h : HInv v hm) : HInv v (cU v hm hosts).2 := by
  by_cases hk : hosts.all bB = false
  · rw [show cU v hm hosts = (([], 2), hm) from if_pos hk]; exact h
  · rw [show cU v hm hosts = (((eA v (ep hm hosts) hosts).2, 0), (eA v (ep hm hosts) hosts).1) from if_neg hk]
    exact HInv.fold (s := (ep hm hosts, [])) (iu hk) (h.filter _)
theorem HInv.len {v : Vp} {hm : Hm} (h : HInv v hm) : hm.length ≤ du v.rg v.res := by
  have := nd_len h.inv.ads (m := plcV v) fun a ha => by
    obtain ⟨p, hp, rfl⟩ := List.mem_map.1 ha
    exact h.pl p hp
  rw [List.length_map] at this; exact this
/-- Where giving fails, all that is free is given. -/
theorem HInv.full {v : Vp} {hm : Hm} (h : HInv v hm) (hr : RgOk v.rg) (hz : cC v.rg = 0) (hroom : v.room = du v.rg v.res) (hf : FailV v hm) : hm.length = du v.rg v.res := by
  rcases hf with hf | hf
  · omega
  · refine Nat.le_antisymm h.len ?_
    have := nd_len (l := plcV v) (m := hm.map fun p => p.2.ad) ((each_nodup hr hz).sublist List.filter_sublist) fun a ha => by
      obtain ⟨h1, h2⟩ := List.mem_filter.1 ha
      obtain ⟨i, i0, i1, rfl⟩ := each_mem.1 h1
      have h3 := hf i i0 i1
      rw [d8, h2, Bool.and_true, Bool.not_eq_false', lkp_mem, gB] at h3
      exact h3
    rw [List.length_map] at this; exact this
def fI (l : List aU) (n : aU) : Bool := l.any fun x => eS x n
theorem hostOk_iff {n : aU} : bB n = true ↔ n ≠ [] ∧ bv n = 0 := by simp [bB]
theorem fS {n : aU} (h : bB n = true) : n.length ≤ 254 := (nameCk_zero.1 (hostOk_iff.1 h).2).1
theorem same_ok {a b : aU} (ha : bB a = true) (hb : bB b = true) : eS a b = true ↔ aX a = aX b := by simp [eS, (hostOk_iff.1 ha).2, (hostOk_iff.1 hb).2]
theorem among_iff {l : List aU} {n : aU} (hl : ∀ x ∈ l, bB x = true) (hn : bB n = true) : fI l n = true ↔ aX n ∈ l.map aX := by
  rw [fI, List.any_eq_true, List.mem_map]
  constructor
  · rintro ⟨x, hx, h⟩; exact ⟨x, hx, (same_ok (hl x hx) hn).1 h⟩
  · rintro ⟨x, hx, h⟩; exact ⟨x, hx, (same_ok (hl x hx) hn).2 h⟩
theorem among_no {l : List aU} {n : aU} (h : ∀ q, q < l.length → eS (l.getD q []) n = false) : fI l n = false := by
  rw [fI, List.any_eq_false]
  intro x hx
  obtain ⟨q, hq, rfl⟩ := List.mem_iff_getElem.1 hx
  have := h q hq
  rw [List.getD_eq_getElem?_getD, List.getElem?_eq_getElem hq] at this
  rw [show eS l[q] n = false from this]; decide
theorem among_yes {l : List aU} {n : aU} {q : Nat} (hq : q < l.length) (h : eS (l.getD q []) n = true) : fI l n = true := List.any_eq_true.2 ⟨_, bc hq, h⟩
theorem ofV_ok {hm : Hm} {n : aU} (h : bB n = true) : ofV hm n = (((co hm (aX n)).getD cV).ad, (co hm (aX n)).isSome) := if_neg (by rw [h]; decide)
theorem ofV_has {hm : Hm} {n : aU} (h : bB n = true) : (ofV hm n).2 = true ↔ aX n ∈ hm.map fun p => p.1 := by rw [ofV_ok h]; exact lkp_mem
theorem lostL_mem {hm : Hm} {k : aU} : ∀ {hosts l : List aU}, k ∈ (gh hm l hosts).map aX ↔ k ∈ l.map aX ∨ (k ∈ hosts.map aX ∧ k ∉ hm.map fun p => p.1)
  | [], l => by simp [gh]
  | n :: t, l => by
    show k ∈ (gh hm (eY hm l n) t).map aX ↔ _
    rw [lostL_mem, List.map_cons, List.mem_cons]
    have hn : (co hm (aX n)).isSome = false ↔ aX n ∉ hm.map fun p => p.1 := by rw [← lkp_mem]; simp
    by_cases hc : (co hm (aX n)).isSome = false ∧ aX n ∉ l.map aX
    · rw [eY, if_pos hc, List.map_append, List.mem_append]
      simp only [List.map_cons, List.map_nil, List.mem_singleton]
      have := hn.1 hc.1
      constructor
      · rintro ((h | rfl) | h)
        · exact .inl h
        · exact .inr ⟨.inl rfl, this⟩
        · exact .inr ⟨.inr h.1, h.2⟩
      · rintro (h | ⟨rfl | h, h2⟩)
        · exact .inl (.inl h)
        · exact .inl (.inr rfl)
        · exact .inr ⟨h, h2⟩
    · rw [eY, if_neg hc]
      constructor
      · rintro (h | h)
        · exact .inl h
        · exact .inr ⟨.inr h.1, h.2⟩
      · rintro (h | ⟨rfl | h, h2⟩)
        · exact .inl h
        · exact .inl (Decidable.not_not.1 fun q => hc ⟨hn.2 h2, q⟩)
        · exact .inr ⟨h, h2⟩
theorem lostL_sub {hm : Hm} : ∀ {hosts l : List aU} {x : aU}, x ∈ gh hm l hosts → x ∈ l ∨ x ∈ hosts
  | [], l, x, h => .inl h
  | n :: t, l, x, h => by
    rcases lostL_sub (hosts := t) (l := eY hm l n) h with h | h
    · unfold eY at h
      split at h
      · exact (List.mem_append.1 h).elim .inl (fun e => .inr (by rw [List.mem_singleton.1 e]; exact .head _))
      · exact .inl h
    · exact .inr (.tail _ h)
section
variable {v : Vp} {hm hm2 : Hm} {hosts ls : List aU} {er : Int} (hK : cU v hm hosts = ((ls, er), hm2))
include hK
theorem keep_err (he : er ≠ 0) : hm2 = hm := by
  by_cases h : hosts.all bB = false
  · rw [show cU v hm hosts = (([], 2), hm) from if_pos h] at hK; cases hK; rfl
  · rw [show cU v hm hosts = (((eA v (ep hm hosts) hosts).2, 0), (eA v (ep hm hosts) hosts).1) from if_neg h] at hK; cases hK; exact absurd rfl he
theorem eJ (he : ¬ er ≠ 0) : (∀ n ∈ hosts, bB n = true) ∧ Kept v (ep hm hosts) hosts (hm2, ls) ∧ ∀ k ∈ hm2.map (fun p => p.1), k ∈ hosts.map aX := by
  by_cases h : hosts.all bB = false
  · rw [show cU v hm hosts = (([], 2), hm) from if_pos h] at hK; cases hK; exact absurd (by decide) he
  · have := keep_kept (v := v) (hm := hm) h
    rw [hK] at this
    exact ⟨iu h, this.1, this.2.2⟩
theorem of_was (he : ¬ er ≠ 0) (h : PInv hm) (h2 : PInv hm2) {p : aU × Hd} (hp : p ∈ hm) : (ofV hm2 p.2.host).2 = fI hosts p.2.host ∧ ((ofV hm2 p.2.host).2 = true → (ofV hm2 p.2.host).1 = p.2.ad) := by
  obtain ⟨hok, hk, hkeys⟩ := eJ hK he
  obtain ⟨f1, f2⟩ := h.fold p hp
  have hin : aX p.2.host ∈ hosts.map aX → p ∈ hm2 := fun hx => by
    obtain ⟨m, hm9⟩ := hk.more
    dsimp only at hm9
    rw [hm9]
    exact List.mem_append_left _ (List.mem_filter.2 ⟨hp, by rw [f1]; exact decide_eq_true hx⟩)
  have h1 : (ofV hm2 p.2.host).2 = true ↔ aX p.2.host ∈ hosts.map aX := by
    rw [ofV_has f2]
    exact ⟨fun e => hkeys _ e, fun e => List.mem_map.2 ⟨p, hin e, f1⟩⟩
  refine ⟨?_, fun e => ?_⟩
  · rw [Bool.eq_iff_iff, h1, among_iff hok f2]
  · have := f9 h2.keys (a := p.1) (v := p.2) (hin (h1.1 e))
    rw [ofV_ok f2, ← f1, this]; rfl
theorem of_lost (he : ¬ er ≠ 0) {n : aU} (hn : n ∈ hosts) : (ofV hm2 n).2 ≠ fI ls n := by
  obtain ⟨hok, hk, hkeys⟩ := eJ hK he
  have hl := hk.lost
  dsimp only at hl
  have h1 : fI ls n = true ↔ aX n ∉ hm2.map fun p => p.1 := by
    rw [among_iff (fun x hx => hok x ((lostL_sub (hm := hm2) (l := []) (hl ▸ hx)).resolve_left (fun q => nomatch q))) (hok n hn), hl, lostL_mem]
    constructor
    · rintro (h | h)
      · cases h
      · exact h.2
    · exact fun h => .inr ⟨List.mem_map.2 ⟨n, hn, rfl⟩, h⟩
  have h2 := ofV_has (hm := hm2) (hok n hn)
  intro e
  by_cases hc : aX n ∈ hm2.map fun p => p.1
  · exact h1.1 (e ▸ h2.2 hc) hc
  · exact hc (h2.1 (e.symm ▸ h1.2 hc))
theorem keep_full (he : ¬ er ≠ 0) (h2 : HInv v hm2) (hr : RgOk v.rg) (hz : cC v.rg = 0) (hroom : v.room = du v.rg v.res) (hl : 0 < ls.length) : hm2.length = du v.rg v.res := by
  obtain ⟨hok, hk, hkeys⟩ := eJ hK he
  have h1 := hk.lost
  dsimp only at h1
  rcases hk.full with hf | hf
  · exact h2.full hr hz hroom hf
  · rw [fH hf] at h1; rw [h1] at hl; cases hl
end
theorem of_host {hm : Hm} (h : PInv hm) {n : aU} (hn : bB n = true) (hi : (ofV hm n).2 = true) : (eW hm (cg hm) (ofV hm n).1).2 = true ∧ eS (eW hm (cg hm) (ofV hm n).1).1 n = true := by
  rw [ofV_ok hn] at hi ⊢
  obtain ⟨x, hx⟩ := Option.isSome_iff_exists.1 hi
  have hm9 := eE hx
  obtain ⟨f1, f2⟩ := h.fold _ hm9
  have ha : co (cg hm) x.ad = some (aX n) := f9 (by rw [gB]; exact h.ads) (List.mem_map.2 ⟨_, hm9, rfl⟩)
  have e : eW hm (cg hm) x.ad = (x.host, true) := by
    rw [eW, ha, if_neg (fun q => nomatch q)]
    show (((co hm (aX n)).getD cV).host, true) = _
    rw [hx]; rfl
  dsimp only
  rw [hx]
  show (eW hm (cg hm) x.ad).2 = true ∧ eS (eW hm (cg hm) x.ad).1 n = true
  rw [e]
  exact ⟨rfl, (same_ok f2 hn).2 f1.symm⟩
/-- What is held may be. -/
def HeldG (rg : Rg) (res : List Rg) (hs : List Hd) : Prop := ∀ i, i < hs.length → (de rg (hs.getD i cV).ad = true ∧ f7 (hs.getD i cV).ad ∧ (∀ x ∈ res, bT x (hs.getD i cV).ad = false)) ∧ (hs.getD i cV).host.length ≤ 254 ∧ ∀ k, k < i → (hs.getD k cV).ad ≠ (hs.getD i cV).ad ∧ eS (hs.getD k cV).host (hs.getD i cV).host = false
theorem nd_getD {α β : Type} {f : α → β} {l : List α} (h : (l.map f).Nodup) {i k : Nat} (hi : i < l.length) (hk : k < i) (d : α) : f (l.getD k d) ≠ f (l.getD i d) := by
  rw [List.getD_eq_getElem?_getD, List.getD_eq_getElem?_getD, List.getElem?_eq_getElem hi, List.getElem?_eq_getElem (by omega)]
  rw [List.Nodup, List.pairwise_map, List.pairwise_iff_getElem] at h
  exact h k i (by omega) hi hk
theorem at_adok {r : Rg} {i : Int} (hr : RgOk r) (hz : cC r = 0) (h0 : 0 ≤ i) (hi : i < bD r) : f7 (atR r i).1 := by
  obtain ⟨h1, h2, h3⟩ := at_ok hr hz h0 hi
  rw [at_add h0 hi, h1]
  obtain ⟨a1, a2, a3, a4⟩ := hr.1
  exact ⟨a1, a2, by show 0 ≤ r.base.lo + i; omega, h3⟩
theorem held_g {v : Vp} {hm : Hm} (h : HInv v hm) (hr : RgOk v.rg) (hz : cC v.rg = 0) {o : List Hd} (ho : o.Perm (hm.map (·.2))) : HeldG v.rg v.res o := by
  have hads : (o.map fun x => x.ad).Nodup := (ho.map fun x => x.ad).nodup_iff.2 (by rw [List.map_map]; exact h.inv.ads)
  have hfo : (o.map fun x => aX x.host).Nodup := (ho.map fun x => aX x.host).nodup_iff.2 (by
    rw [List.map_map]
    have e : hm.map ((fun x : Hd => aX x.host) ∘ fun p : aU × Hd => p.2) = hm.map fun p => p.1 := List.map_congr_left fun p hp => (h.inv.fold p hp).1.symm
    rw [e]; exact h.inv.keys)
  have hall : ∀ x ∈ o, bB x.host = true ∧ de v.rg x.ad = true ∧ f7 x.ad ∧ ∀ y ∈ v.res, bT y x.ad = false := fun x hx => by
    obtain ⟨p, hp, rfl⟩ := List.mem_map.1 (ho.mem_iff.1 hx)
    obtain ⟨q1, q2⟩ := List.mem_filter.1 (h.pl p hp)
    obtain ⟨i, i0, i1, e⟩ := each_mem.1 q1
    rw [e] at q2 ⊢
    refine ⟨(h.inv.fold p hp).2, idx_at hr hz i0 i1, at_adok hr hz i0 i1, fun y hy => ?_⟩
    simp only [dz, Bool.not_eq_true', List.any_eq_false] at q2
    simpa using q2 y hy
  intro i hi
  obtain ⟨g1, g2, g3, g4⟩ := hall _ (bc (d := cV) hi)
  refine ⟨⟨g2, g3, g4⟩, fS g1, fun k hk => ⟨nd_getD hads hi hk cV, ?_⟩⟩
  rw [Bool.eq_false_iff]
  exact fun e => nd_getD hfo hi hk cV ((same_ok (hall _ (bc (d := cV) (by omega))).1 g1).1 e)

end Go.Proofs.YtnpdgmoeoidppaaGreat

/- law 14: two pools of one kind, what they keep -/
namespace Go.Proofs.YtnpdgmoeoidppaaGreat
open Go.RowKit Go.Shelf
set_option linter.unusedVariables false
set_option linter.unusedSimpArgs false

instance : DecidableEq Hd := fun a b => if h : a.host = b.host ∧ a.ad = b.ad then .isTrue (by cases a; cases b; cases h.1; cases h.2; rfl) else .isFalse (fun e => h (by rw [e]; exact ⟨rfl, rfl⟩))
theorem eqd_hd (a b : Hd) : EqD Tryz.prog 3 46 (.agg (gI a).toArray) (.agg (gI b).toArray) (decide (a = b)) := by
  have h : EqD Tryz.prog 3 46 (.agg (gI a).toArray) (.agg (gI b).toArray) ((a.host == b.host) && (decide (a.ad = b.ad) && true)) :=
    eqd_struct (n := 2) Tryz.underlying46 (by kernel_rfl) (gt (v := .string (ba a.host)) (u := .string (ba b.host)) (by kernel_rfl) (fun _ => by kernel_rfl) (fun _ => by kernel_rfl) (eqd_str Tryz.underlying26) rfl (gt (v := .agg (dW a.ad).toArray) (u := .agg (dW b.ad).toArray) (by kernel_rfl) (fun _ => by kernel_rfl) (fun _ => by kernel_rfl) (fW a.ad b.ad) rfl eqf_nil))
  have e : ((a.host == b.host) && (decide (a.ad = b.ad) && true)) = decide (a = b) := by
    cases a; cases b
    rw [Bool.eq_iff_iff]
    simp
  rw [e] at h; exact h
theorem Hp.memS {ok0 : Nat → Prop} {w0 w : World} {L S M : List Ch} {c : Ch} (h : Hp ok0 w0 L S w) (hM : Ch.rall M ∈ S) (hc : c ∈ M) : Hp ok0 w0 L (c :: S) w :=
  h.share (Upd.refl _ _) c (h.sh _ hM c hc) (fun b hb => .inr ⟨_, hM, c, hc, hb⟩)
def vR (rg : Rg) (res : List Rg) : Vp := ⟨rg, res, none, 0, du rg res, 0, 0, 0⟩
theorem c_kE {v : Vp} {rg : Rg} {res : List Rg} (h : v.rg = rg ∧ v.res = res ∧ v.room = du rg res) (hr : RgOk rg) (hrs : ∀ x ∈ res, RgOk x) (hl : res.length ≤ 1000000000000) {hm hm2 : Hm} {hosts ls : List aU} {er : Int} (hK : cU (vR rg res) hm hosts = ((ls, er), hm2)) (A : Option Addr) (c : Nat) (hi0 : PInv hm) (hml : hm.length + hosts.length ≤ 1000000) (hhb : ∀ n ∈ hosts, n.length ≤ 1000000000) :
    UC Tryz.prog 41 #[.pointer (some ⟨v.b, 0, none⟩), .slice A hosts.length c] [Ch.row v.b (vpC v) 146, Ch.rd v.A 4 ea v.res, Ch.rd A 1 dV hosts] (vmC v hm (cg hm)) (α := Option Addr × Nat) (fun p => .tuple #[.slice p.1 ls.length p.2, .int .i64 er]) (fun p => Ch.two (vmC v hm2 (cg hm2)) (Ch.ls p.1 p.2 26 1 dV ls)) := by
  have e := c_vKeep v hm hosts A c (new_ok hr hrs hl h) hi0 hml hhb
  rw [keep_cong (v := v) (v' := vR rg res) h, hK] at e
  exact e
theorem keep_inv {v : Vp} {hm hm2 : Hm} {hosts ls : List aU} {er : Int} (h : HInv v hm) (hK : cU v hm hosts = ((ls, er), hm2)) : HInv v hm2 := by
  have := h.keep (hosts := hosts); rw [hK] at this; exact this
theorem lostL_len {hm : Hm} : ∀ {hosts l : List aU}, (gh hm l hosts).length ≤ l.length + hosts.length
  | [], _ => Nat.le_refl _
  | n :: t, l => by
    have h := lostL_len (hm := hm) (hosts := t) (l := eY hm l n)
    have h2 : (eY hm l n).length ≤ l.length + 1 := by
      unfold eY; split
      · simp
      · omega
    rw [List.length_cons]
    exact Nat.le_trans h (by omega)
theorem lost_len14 {v : Vp} {hm hm2 : Hm} {hosts ls : List aU} {er : Int} (hK : cU v hm hosts = ((ls, er), hm2)) : ls.length ≤ hosts.length := by
  by_cases h : hosts.all bB = false
  · rw [show cU v hm hosts = (([], 2), hm) from if_pos h] at hK
    cases hK; exact Nat.zero_le _
  · have h1 := (keep_kept (v := v) (hm := hm) h).1.lost
    rw [hK] at h1
    dsimp only at h1
    rw [h1]
    have := lostL_len (hm := hm2) (hosts := hosts) (l := [])
    simpa using this
theorem lost_bnd {v : Vp} {hm hm2 : Hm} {hosts ls : List aU} {er : Int} (hK : cU v hm hosts = ((ls, er), hm2)) (he : ¬ er ≠ 0) {B : Nat} (h : ∀ n ∈ hosts, n.length ≤ B) : ∀ n ∈ ls, n.length ≤ B := fun n hn => by
  have h1 := (eJ hK he).2.1.lost
  dsimp only at h1
  exact h n ((lostL_sub (hm := hm2) (l := []) (h1 ▸ hn)).resolve_left (fun q => nomatch q))
theorem cks_head {rg : Rg} {res : List Rg} (h : f5 (rg :: res) = 0) : cC rg = 0 := by
  refine Decidable.not_not.1 fun e => ?_
  rw [f5, if_pos e] at h; exact e h
theorem host_len {hm : Hm} (h : PInv hm) (n : aU) : (eW hm (cg hm) (ofV hm n).1).1.length ≤ 254 := by
  unfold eW
  split
  · exact Nat.zero_le _
  · show (((co hm _).getD cV).host).length ≤ 254
    cases e : co hm ((co (cg hm) (ofV hm n).1).getD []) with
    | none => exact Nat.zero_le _
    | some x => exact fS (h.fold _ (eE e)).2
theorem light_nil {rg : Rg} {nr : Nat} (h : bA rg nr [] = true) : nr ≤ 6 ∧ bD rg ≤ 128 := by
  simp only [bA, Bool.and_eq_true, decide_eq_true_eq] at h; exact h.2.2
theorem light_one {rg : Rg} {nr : Nat} {a : Ac} (h : bA rg nr [a] = true) : a.hosts.length ≤ 20 ∧ ∀ n ∈ a.hosts, n.length ≤ 400 := by
  simp only [bA, Bool.and_eq_true, decide_eq_true_eq, List.all_cons, bS, dK, List.all_eq_true] at h; exact h.1.1.2
theorem dE {rg : Rg} {res : List Rg} {hm : Hm} (h : HInv (vR rg res) hm) : hm.length ≤ 65536 := Nat.le_trans h.len (free_le rg res)
theorem dB {o : List Hd} {hm : Hm} (h : o.Perm (hm.map (·.2))) : o.length = hm.length := by rw [h.length_eq, List.length_map]

set_option maxRecDepth 100000 in
theorem c_kit_Same_hd (xs ys : List Hd) (A B : Option Addr) (c e : Nat) (hl : xs.length ≤ 1000000000000) : RC Tryz.prog 42 #[.slice A xs.length c, .slice B ys.length e] [Ch.rd A 4 gI xs, Ch.rd B 4 gI ys] (α := Unit) (fun _ => .bool (decide (xs = ys))) (fun _ => []) := by
 refine bp (args := [.slice A xs.length c, .slice B ys.length e]) 26 Tryz.func42 rfl rfl rfl (fun w0 => ?_)
 refine ap ?_
 refine ab ?_
 refine aq (ai rfl) rfl rfl ?_
 refine ae ?_
 refine ak ?_
 refine ap ?_
 refine ap ?_
 refine ab ?_
 refine aq (aj rfl) rfl rfl ?_
 refine aq (bK Tryz.underlying25 rfl) rfl rfl ?_
 refine aq (aj rfl) rfl rfl ?_
 refine aq (bK Tryz.underlying25 rfl) rfl rfl ?_
 refine aq (ct rfl rfl) rfl rfl ?_
 refine aG (t := 10) rfl (fun h1_4 => ?_) (fun h1_4 => ?_)
 refine ae ?_
 refine ak ?_
 refine aA rfl ?_
 refine ap ?_
 refine ab ?_
 refine aq (ai rfl) rfl rfl ?_
 refine ae ?_
 refine ak ?_
 refine aJ ?_
 refine aC ?_
 refine aN (ts := [4]) rfl rfl rfl (fun w hw => ?_)
 have hne : xs ≠ ys := fun he => by rw [he] at h1_4; exact absurd rfl h1_4
 exact ⟨(), by rw [decide_eq_false hne]; rfl, hw.base, hw.toNews⟩
 refine ae ?_
 refine ak ?_
 refine ay rfl ?_
 refine aH ?_
 refine ak ?_
 refine ap ?_
 refine ap ?_
 refine ab ?_
 refine aq (ai rfl) rfl rfl ?_
 refine ae ?_
 refine ak ?_
 refine aR ?_
 refine bY (σ := Nat) [4, 5, 11, 12, 13, 14, 15, 16, 17, 18, 19, 20, 21, 22, 23, 24, 25] (fun k => k ≤ xs.length ∧ xs.take k = ys.take k) (fun k => xs.length - k) (fun k => [(5, .int .i64 k)]) (0) ?_ ⟨rfl, trivial⟩ (fun k hI => ?_)
 exact ⟨Nat.zero_le _, rfl⟩
 refine ap ?_
 refine ap ?_
 refine ab ?_
 refine aq (aj rfl) rfl rfl ?_
 refine aq (aj rfl) rfl rfl ?_
 refine aq (bK Tryz.underlying25 rfl) rfl rfl ?_
 refine aq (bP rfl rfl) rfl rfl ?_
 refine aG (t := 14) rfl (fun h4_3 => ?_) (fun h4_3 => ?_)
 refine ae ?_
 refine ak ?_
 refine aA rfl ?_
 refine aH ?_
 refine ak ?_
 refine ap ?_
 refine aR ?_
 refine ap ?_
 refine d3 9 rfl mixed ?_
 refine aD (i := 0) rfl ah (aj rfl) av av rfl (aa (ao (aa (au (ao (aa ar)))))) (by kernel_rfl) rfl ?_
 refine aD (i := 1) rfl ah (aj rfl) av av rfl (aa (ao (aa (au (ao (aa ar)))))) (by kernel_rfl) rfl ?_
 refine aD (i := 2) rfl ah (bq  Tryz.underlying25 bL rfl rfl (bH 0 rfl) rfl (by omega)) av av rfl (aa (ao (aa (au (ao (aa ar)))))) (by kernel_rfl) rfl ?_
 refine aD (i := 3) rfl ah (fN dd cV bL rfl (bH 0 rfl) (by omega) rfl rfl rfl) av av rfl (aa (ao (aa (au (ao (aa ar)))))) (by kernel_rfl) rfl ?_
 refine aD (i := 4) rfl ah (aj rfl) av av rfl (aa (ao (aa (au (ao (aa ar)))))) (by kernel_rfl) rfl ?_
 refine aD (i := 5) rfl ah (aj rfl) av av rfl (aa (ao (aa (au (ao (aa ar)))))) (by kernel_rfl) rfl ?_
 refine aD (i := 6) rfl ah (bq  Tryz.underlying25 bL rfl rfl (bH 1 rfl) rfl (by omega)) av av rfl (aa (ao (aa (au (ao (aa ar)))))) (by kernel_rfl) rfl ?_
 refine aD (i := 7) rfl ah (fN dd cV bL rfl (bH 1 rfl) (by omega) rfl rfl rfl) av av rfl (aa (ao (aa (au (ao (aa ar)))))) (by kernel_rfl) rfl ?_
 refine aD (i := 8) rfl ah (gw (by kernel_rfl) rfl rfl (eqd_hd _ _) rfl) av av rfl (aa (ao (aa (au (ao (aa ar)))))) (by kernel_rfl) rfl ?_
 refine cL (t := 25) rfl (fun h6_8 => ?_) (fun h6_8 => ?_)
 refine cw (by kernel_rfl) ?_
 refine ak ?_
 refine aA rfl ?_
 refine ap ?_
 refine ab ?_
 refine aq (ai rfl) rfl rfl ?_
 refine ae ?_
 refine ak ?_
 refine aJ ?_
 refine aT ?_
 refine aC ?_
 refine bw ?_
 refine aT ?_
 refine aC ?_
 refine aN (ts := [4]) rfl rfl rfl (fun w hw => ?_)
 focus first
   | (have hne : xs ≠ ys := ne_of_getD cV (k := k) (by simpa using h6_8)
      exact ⟨(), by rw [decide_eq_false hne]; rfl, hw.base, hw.toNews⟩)
   | (have hk : k = xs.length := by omega
      have he : xs = ys := by have := hI.2; rw [hk, List.take_length, List.take_of_length_le (by omega)] at this; exact this
      exact ⟨(), by rw [decide_eq_true he]; rfl, hw.base, hw.toNews⟩)
 refine cw (by kernel_rfl) ?_
 refine ak ?_
 refine ay rfl ?_
 refine aH ?_
 refine bo ?_
 refine ak ?_
 refine ab ?_
 refine aq (aj rfl) rfl rfl ?_
 refine aq (bd rfl rfl (by omega) (by omega)) rfl rfl ?_
 refine aq (ai rfl) rfl rfl ?_
 refine ae ?_
 refine bj (k + 1) ?_ ?_ ⟨rfl, trivial⟩ (by repeat (first | exact trivial | refine ⟨rfl, ?_⟩)) av
 exact ⟨by omega, take_eq_succ cV (by omega) (by omega) hI.2 (by simpa using h6_8)⟩
 omega
 refine ae ?_
 refine ak ?_
 refine ay rfl ?_
 refine bE ?_
 refine aZ ?_
 refine aY ?_
 refine a7 ?_
 refine ak ?_
 refine ap ?_
 refine ab ?_
 refine aq (ai rfl) rfl rfl ?_
 refine ae ?_
 refine ak ?_
 refine aJ ?_
 refine aN (ts := [4]) rfl rfl rfl (fun w hw => ?_)
 focus first
   | (have hne : xs ≠ ys := ne_of_getD cV (k := k) (by simpa using h6_8)
      exact ⟨(), by rw [decide_eq_false hne]; rfl, hw.base, hw.toNews⟩)
   | (have hk : k = xs.length := by omega
      have he : xs = ys := by have := hI.2; rw [hk, List.take_length, List.take_of_length_le (by omega)] at this; exact this
      exact ⟨(), by rw [decide_eq_true he]; rfl, hw.base, hw.toNews⟩)
end Go.Proofs.YtnpdgmoeoidppaaGreat
