import Derived.Test.YtnpdgmoeoidppaaGreatVgQt
import Derived.Test.YtnpdgmoeoidppaaGreatVkQt
import Derived.Test.YtnpdgmoeoidppaaGreatVnQt
import Derived.SizedLaws
/- vips: what fails goes on failing, in plain words -/
namespace Go.Proofs.YtnpdgmoeoidppaaGreat
open Go.RowKit Go.Shelf
set_option linter.unusedVariables false
set_option linter.unusedSimpArgs false

theorem probe_all {n : aV} {size : Nat} {i : Int} (h : 0 ≤ i ∧ i < size) : i ∈ dZ n size := by
  refine List.mem_map.2 ⟨((i - dO n size) % size).toNat, ?_, ?_⟩
  · have h0 := Int.emod_nonneg (i - dO n size) (show (size : Int) ≠ 0 by omega)
    have h1 := Int.emod_lt_of_pos (i - dO n size) (show (0 : Int) < size by omega)
    rw [List.mem_range]; omega
  · have h0 := Int.emod_nonneg (i - dO n size) (show (size : Int) ≠ 0 by omega)
    rw [gj, if_neg (by omega), Int.toNat_of_nonneg h0, Int.add_emod, Int.emod_emod_of_dvd _ (Int.dvd_refl _), ← Int.add_emod]
    rw [show dO n size + (i - dO n size) = i by omega]
    exact Int.emod_eq_of_lt h.1 h.2
/-- No place is free, or the room is out: whatever the name. -/
def FailV (v : Vp) (hm : Hm) : Prop := v.room - hm.length = 0 ∨ ∀ i : Int, 0 ≤ i → i < bj v.rg → cX v.res (bw hm) (atR v.rg i).1 = false
theorem probe_none {v : Vp} {hm : Hm} {n : aV} : bO v (bw hm) n = none ↔ ∀ i : Int, 0 ≤ i → i < bj v.rg → cX v.res (bw hm) (atR v.rg i).1 = false := by
  rw [bO, List.find?_eq_none]
  constructor
  · intro h i h1 h2
    simpa using h i (probe_all ⟨h1, h2⟩)
  · intro h i hi
    obtain ⟨h1, h2⟩ := gX hi
    rw [h i h1 h2]; decide
theorem give_fail {v : Vp} {hm : Hm} {n : aV} (h : bl n = true) (hf : FailV v hm) : (bK v hm (bw hm) n).2.1 = hm ∧ ((bK v hm (bw hm) n).1.2 = 0 ↔ (cA hm (a6 n)).isSome = true) := by
  by_cases h2 : (cA hm (a6 n)).isSome = true
  · rw [cF h h2]; exact ⟨rfl, fun _ => h2, fun _ => rfl⟩
  · have h2 : (cA hm (a6 n)).isSome = false := by simpa using h2
    by_cases h3 : v.room - hm.length = 0
    · rw [cS h h2 h3]; exact ⟨rfl, fun e => absurd (show (10 : Int) = 0 from e) (by decide), fun e => by rw [h2] at e; cases e⟩
    · rw [cp h h2 h3 (probe_none.2 (hf.resolve_left h3))]
      exact ⟨rfl, fun e => absurd (show (10 : Int) = 0 from e) (by decide), fun e => by rw [h2] at e; cases e⟩
theorem fail_of {v : Vp} {hm : Hm} {n : aV} (h : bl n = true) (he : (bK v hm (bw hm) n).1.2 ≠ 0) : FailV v hm := by
  by_cases h2 : (cA hm (a6 n)).isSome = true
  · rw [cF h h2] at he; exact absurd rfl he
  · have h2 : (cA hm (a6 n)).isSome = false := by simpa using h2
    by_cases h3 : v.room - hm.length = 0
    · exact .inl h3
    · cases hg : bO v (bw hm) n with
      | none => exact .inr (probe_none.1 hg)
      | some i => rw [cp h h2 h3 hg] at he; exact absurd rfl he

theorem lkp_mem {α β : Type} [DecidableEq α] {m : List (α × β)} {a : α} : (cA m a).isSome = true ↔ a ∈ m.map fun p => p.1 := by
  have h := lkp_none_iff (m := m) (a := a)
  cases hl : cA m a with
  | none => rw [hl] at h; simp only [Option.isSome_none, Bool.false_eq_true, false_iff]; exact h.1 rfl
  | some x => rw [hl] at h; simp only [Option.isSome_some, true_iff]; exact Decidable.not_not.1 fun e => by cases h.2 e
def hasK (hm : Hm) (n : aV) : Prop := a6 n ∈ hm.map fun p => p.1
/-- What a name that is given leaves: the list as it was, or one more. -/
theorem ii {v : Vp} {hm : Hm} {n : aV} (h : bl n = true) : ((bK v hm (bw hm) n).2.1 = hm ∧ ((bK v hm (bw hm) n).1.2 = 0 → hasK hm n)) ∨ (∃ i : Int, 0 ≤ i ∧ i < bj v.rg ∧ cX v.res (bw hm) (atR v.rg i).1 = true ∧ ¬ hasK hm n ∧ (bK v hm (bw hm) n).1 = ((atR v.rg i).1, 0) ∧ (bK v hm (bw hm) n).2.1 = hm ++ [(a6 n, ⟨n, (atR v.rg i).1⟩)]) := by
  by_cases h2 : (cA hm (a6 n)).isSome = true
  · rw [cF h h2]; exact .inl ⟨rfl, fun _ => lkp_mem.1 h2⟩
  · have h3 : (cA hm (a6 n)).isSome = false := by simpa using h2
    by_cases h4 : v.room - hm.length = 0
    · rw [cS h h3 h4]; exact .inl ⟨rfl, fun e => absurd (show (10 : Int) = 0 from e) (by decide)⟩
    · cases hg : bO v (bw hm) n with
      | none => rw [cp h h3 h4 hg]; exact .inl ⟨rfl, fun e => absurd (show (10 : Int) = 0 from e) (by decide)⟩
      | some i =>
        rw [cp h h3 h4 hg]
        have hi := gX (List.mem_of_find?_eq_some hg)
        have hf : cX v.res (bw hm) (atR v.rg i).1 = true := by
          have := List.find?_some hg
          exact this
        exact .inr ⟨i, hi.1, hi.2, hf, fun e => h2 (lkp_mem.2 e), rfl, rfl⟩
theorem give_not {v : Vp} {hm : Hm} {n : aV} (h : bl n = true) (hf : ¬ FailV v hm) : (bK v hm (bw hm) n).1.2 = 0 := Decidable.not_not.1 fun e => hf (fail_of h e)
def iN (hm : Hm) (l : List aV) (n : aV) : List aV := if (cA hm (a6 n)).isSome = false ∧ a6 n ∉ l.map a6 then l ++ [n] else l
def lostL (hm : Hm) (l : List aV) (hosts : List aV) : List aV := hosts.foldl (iN hm) l
theorem keepF_fail {v : Vp} {hm : Hm} {n : aV} {l : List aV} (h : bl n = true) (hf : FailV v hm) : fI v (hm, l) n = (hm, iN hm l n) := by
  obtain ⟨h1, h2⟩ := give_fail h hf
  unfold fI iN
  refine Prod.ext h1 ?_
  by_cases e : (cA hm (a6 n)).isSome = true
  · show (if _ then _ else _) = (if _ then _ else _)
    rw [if_neg (fun q => q.1 (h2.2 e)), if_neg (fun q => by rw [e] at q; cases q.1)]
  · have e2 : (cA hm (a6 n)).isSome = false := by simpa using e
    have e3 : (bK v hm (bw hm) n).1.2 ≠ 0 := fun q => e (h2.1 q)
    show (if _ then _ else _) = (if _ then _ else _)
    by_cases e4 : a6 n ∉ l.map a6
    · rw [if_pos ⟨e3, e4⟩, if_pos ⟨e2, e4⟩]
    · rw [if_neg (fun q => e4 q.2), if_neg (fun q => e4 q.2)]
theorem lostF_had {hm : Hm} {n : aV} {l : List aV} (hk : hasK hm n) : iN hm l n = l := by rw [iN, if_neg]; rw [lkp_mem.2 hk]; exact fun q => nomatch q.1
theorem g4 {hm : Hm} : ∀ {hosts l : List aV}, (∀ n ∈ hosts, hasK hm n) → lostL hm l hosts = l
  | [], _, _ => rfl
  | n :: t, l, h => by
    show lostL hm (iN hm l n) t = l
    rw [lostF_had (h n (.head _)), g4 fun x hx => h x (.tail _ hx)]
structure Kept (v : Vp) (hm : Hm) (hosts : List aV) (r : Hm × List aV) : Prop where
  lost : r.2 = lostL r.1 [] hosts
  full : FailV v r.1 ∨ ∀ n ∈ hosts, hasK r.1 n
  more : ∃ m, r.1 = hm ++ m
theorem fH {v : Vp} : ∀ {hosts pre : List aV} {hm : Hm} {l : List aV}, (∀ n ∈ hosts, bl n = true) → l = lostL hm [] pre → (FailV v hm ∨ ∀ n ∈ pre, hasK hm n) → Kept v hm (pre ++ hosts) (hosts.foldl (fI v) (hm, l))
  | [], pre, hm, l, _, hl, hf => by rw [List.append_nil]; exact ⟨hl, hf, [], by simp⟩
  | n :: t, pre, hm, l, h, hl, hf => by
    have hn := h n (.head _)
    have ht : ∀ x ∈ t, bl x = true := fun x hx => h x (.tail _ hx)
    rw [List.foldl_cons, show pre ++ n :: t = (pre ++ [n]) ++ t by simp]
    by_cases hF : FailV v hm
    · rw [keepF_fail hn hF]
      refine fH ht ?_ (.inl hF)
      rw [hl, lostL, lostL, List.foldl_append]; rfl
    · have hp := hf.resolve_left hF
      have h0 := give_not hn hF
      have hl0 : l = [] := by rw [hl, g4 hp]
      have hk : fI v (hm, l) n = ((bK v hm (bw hm) n).2.1, l) := Prod.ext rfl (if_neg (fun q : _ ≠ _ ∧ _ => q.1 h0))
      rw [hk]
      rcases ii (v := v) (hm := hm) hn with ⟨g1, g2⟩ | ⟨i, _, _, _, _, _, g1⟩
      · rw [g1]
        have hall : ∀ x ∈ pre ++ [n], hasK hm x := fun x hx => (List.mem_append.1 hx).elim (hp x) (fun e => by rw [List.mem_singleton.1 e]; exact g2 h0)
        exact fH ht (by rw [g4 hall]; exact hl0) (.inr hall)
      · rw [g1]
        have hall : ∀ x ∈ pre ++ [n], hasK (hm ++ [(a6 n, ⟨n, (atR v.rg i).1⟩)]) x := fun x hx => by
          unfold hasK
          rw [List.map_append, List.mem_append]
          exact (List.mem_append.1 hx).elim (fun e => .inl (hp x e)) (fun e => by rw [List.mem_singleton.1 e]; exact .inr (.head _))
        obtain ⟨q1, q2, m, q3⟩ := fH (v := v) (pre := pre ++ [n]) (hm := hm ++ [(a6 n, ⟨n, (atR v.rg i).1⟩)]) (l := l) ht (by rw [g4 hall]; exact hl0) (.inr hall)
        exact ⟨q1, q2, _, by rw [q3, List.append_assoc]⟩
theorem keepG_keys {v : Vp} : ∀ {hosts : List aV} {hm : Hm} {l : List aV}, (∀ n ∈ hosts, bl n = true) → ∀ k ∈ (hosts.foldl (fI v) (hm, l)).1.map (fun p => p.1), k ∈ hm.map (fun p => p.1) ∨ k ∈ hosts.map a6
  | [], _, _, _, k, hk => .inl hk
  | n :: t, hm, l, h, k, hk => by
    rw [List.foldl_cons] at hk
    have hn := h n (.head _)
    rcases keepG_keys (fun x hx => h x (.tail _ hx)) k hk with h1 | h1
    · have h1 : k ∈ (bK v hm (bw hm) n).2.1.map fun p => p.1 := h1
      rcases ii (v := v) (hm := hm) hn with ⟨g1, _⟩ | ⟨i, _, _, _, _, _, g1⟩
      · rw [g1] at h1; exact .inl h1
      · rw [g1, List.map_append, List.mem_append] at h1
        exact h1.elim .inl (fun e => .inr (by rw [List.map_cons, List.map_nil, List.mem_singleton] at e; rw [e]; exact .head _))
    · exact .inr (.tail _ h1)
theorem stay_keys {hm : Hm} {hosts : List aV} : ∀ k ∈ (dx hm hosts).map (fun p => p.1), k ∈ hosts.map a6 := fun k hk => by
  obtain ⟨p, hp, rfl⟩ := List.mem_map.1 hk
  exact of_decide_eq_true (List.mem_filter.1 hp).2
theorem all_ok14 {hosts : List aV} (h : ¬ hosts.all bl = false) : ∀ n ∈ hosts, bl n = true := List.all_eq_true.1 (by simpa using h)
theorem keep_kept {v : Vp} {hm : Hm} {hosts : List aV} (h : ¬ hosts.all bl = false) : Kept v (dx hm hosts) hosts ((cZ v hm hosts).2, (cZ v hm hosts).1.1) ∧ (cZ v hm hosts).1.2 = 0 ∧ ∀ k ∈ (cZ v hm hosts).2.map (fun p => p.1), k ∈ hosts.map a6 := by
  have e : cZ v hm hosts = (((ew v (dx hm hosts) hosts).2, 0), (ew v (dx hm hosts) hosts).1) := if_neg h
  rw [e]
  exact ⟨fH (pre := []) (all_ok14 h) rfl (.inr nofun), rfl, fun k hk => (keepG_keys (all_ok14 h) k hk).elim (stay_keys k) id⟩
theorem perm_sorted {α : Type} {R : α → α → Prop} (hR : ∀ a b, R a b → R b a → a = b) : ∀ {xs ys : List α}, xs.Perm ys → xs.Pairwise R → ys.Pairwise R → xs = ys
  | [], ys, h, _, _ => (List.nil_perm.1 h).symm
  | x :: xs, [], h, _, _ => absurd h.length_eq (by simp)
  | x :: xs, y :: ys, h, h1, h2 => by
    have e : x = y := by
      rcases List.mem_cons.1 (h.mem_iff.1 (List.mem_cons_self : x ∈ x :: xs)) with e | hx
      · exact e
      · rcases List.mem_cons.1 (h.mem_iff.2 (List.mem_cons_self : y ∈ y :: ys)) with e | hy
        · exact e.symm
        · exact hR _ _ ((List.pairwise_cons.1 h1).1 _ hy) ((List.pairwise_cons.1 h2).1 _ hx)
    subst e
    rw [perm_sorted hR (List.Perm.cons_inv h) (List.pairwise_cons.1 h1).2 (List.pairwise_cons.1 h2).2]
theorem cmpA_anti {a b : Ad} (h1 : ¬ dX b a < 0) (h2 : ¬ dX a b < 0) : kdA a = kdA b ∧ a.hi = b.hi ∧ a.lo = b.lo := by
  rw [fm] at h1 h2; omega
theorem kd_inj {a b : Ad} (h : kdA a = kdA b) : a.six = b.six := by
  revert h; unfold kdA; cases a.six <;> cases b.six <;> simp
theorem cmpA_eq {a b : Ad} (h1 : ¬ dX b a < 0) (h2 : ¬ dX a b < 0) : a = b := by
  obtain ⟨q1, q2, q3⟩ := cmpA_anti h1 h2
  have q0 := kd_inj q1
  cases a; cases b; cases q0; cases q2; cases q3; rfl
/-- Rows that rise by their addresses, each address once, are the same if their members are. -/
theorem hd_sorted {xs ys zs : List Hd} (hp : xs.Perm zs) (hs : xs.Pairwise fun a b => ¬ dX b.ad a.ad < 0) (hz : ys.Perm zs) (hy : ys.Pairwise fun a b => ¬ dX b.ad a.ad < 0) (hu : ∀ a ∈ zs, ∀ b ∈ zs, a.ad = b.ad → a = b) : xs = ys := by
  have hx2 : xs.Pairwise fun a b => a ∈ zs ∧ b ∈ zs ∧ ¬ dX b.ad a.ad < 0 := by
    rw [List.pairwise_iff_getElem] at hs ⊢
    exact fun i j hi hj hij => ⟨hp.mem_iff.1 (List.getElem_mem hi), hp.mem_iff.1 (List.getElem_mem hj), hs i j hi hj hij⟩
  have hy2 : ys.Pairwise fun a b => a ∈ zs ∧ b ∈ zs ∧ ¬ dX b.ad a.ad < 0 := by
    rw [List.pairwise_iff_getElem] at hy ⊢
    exact fun i j hi hj hij => ⟨hz.mem_iff.1 (List.getElem_mem hi), hz.mem_iff.1 (List.getElem_mem hj), hy i j hi hj hij⟩
  exact perm_sorted (fun a b h1 h2 => hu a h1.1 b h1.2.1 (cmpA_eq h1.2.2 h2.2.2)) (hp.trans hz.symm) hx2 hy2

theorem ads_uniq {hm : Hm} (h : PInv hm) : ∀ a ∈ hm.map (fun p => p.2), ∀ b ∈ hm.map (fun p => p.2), a.ad = b.ad → a = b := fun a ha b hb e => by
  obtain ⟨p, hp, rfl⟩ := List.mem_map.1 ha
  obtain ⟨q, hq, rfl⟩ := List.mem_map.1 hb
  rw [nd_inj h.ads p hp q hq e]
theorem all_same {hm : Hm} (h : PInv hm) {o1 o2 : List Hd} (h1 : o1.Perm (hm.map (·.2)) ∧ o1.Pairwise fun a b => ¬ dX b.ad a.ad < 0) (h2 : o2.Perm (hm.map (·.2)) ∧ o2.Pairwise fun a b => ¬ dX b.ad a.ad < 0) : o1 = o2 :=
  hd_sorted h1.1 h1.2 h2.1 h2.2 (ads_uniq h)

end Go.Proofs.YtnpdgmoeoidppaaGreat

/- vips: who is held where, in plain words -/
namespace Go.Proofs.YtnpdgmoeoidppaaGreat
open Go.RowKit Go.Shelf
set_option linter.unusedVariables false
set_option linter.unusedSimpArgs false

theorem nd_len {α : Type} [DecidableEq α] : ∀ {l m : List α}, l.Nodup → (∀ a ∈ l, a ∈ m) → l.length ≤ m.length
  | [], _, _, _ => Nat.zero_le _
  | a :: l, m, hn, h => by
    rw [List.nodup_cons] at hn
    have ha := h a (.head _)
    have h1 := nd_len (l := l) (m := m.erase a) hn.2 fun b hb => (List.mem_erase_of_ne (fun e : b = a => hn.1 (e ▸ hb))).2 (h b (.tail _ hb))
    have h2 := List.length_erase_of_mem ha
    have h3 := List.length_pos_of_mem ha
    rw [List.length_cons]; omega
theorem cut_add {n m x i : Nat} (hx : x < 2 ^ n) (hm : m ≤ n) (hc : eV n m x = x) (hi : i < 2 ^ (n - m)) : x + i < 2 ^ n ∧ eV n m (x + i) = x := by
  obtain ⟨q, hq⟩ : ∃ q, x = q * 2 ^ (n - m) := ⟨x / 2 ^ (n - m), by rw [eV] at hc; exact hc.symm⟩
  have hpos : 0 < 2 ^ (n - m) := Nat.two_pow_pos _
  have hpow : 2 ^ m * 2 ^ (n - m) = 2 ^ n := by rw [← Nat.pow_add]; congr 1; omega
  have hq2 : q < 2 ^ m := by
    rw [hq, ← hpow] at hx; exact Nat.lt_of_mul_lt_mul_right hx
  have h3 : (q + 1) * 2 ^ (n - m) ≤ 2 ^ m * 2 ^ (n - m) := Nat.mul_le_mul_right _ hq2
  rw [Nat.succ_mul] at h3
  constructor
  · rw [← hpow, hq]; omega
  · rw [eV, hq, Nat.add_comm, Nat.add_mul_div_right _ _ hpos, Nat.div_eq_of_lt hi, Nat.zero_add]
theorem size_pow {r : Rg} (hz : cw r = 0) {m : Nat} (hm : r.bits = m) : bj r ≤ 2 ^ ((cr r.base).toNat - m) := by
  have hl := gm hz
  rw [bj, if_neg (fun h => h hz)]
  split
  · rw [show (cr r.base - r.bits).toNat = (cr r.base).toNat - m by omega]; exact Nat.le_refl _
  · rw [show (65536 : Nat) = 2 ^ 16 by decide]
    exact Nat.pow_le_pow_right (by decide) (by omega)
/-- A place of a range: what it is, and that the range has it. -/
theorem at_ok {r : Rg} {i : Int} (hr : RgOk r) (hz : cw r = 0) (h0 : 0 ≤ i) (hlt : i < bj r) : cD r.base i = (⟨r.base.six, r.base.hi, r.base.lo + i⟩, true) ∧ ci r ⟨r.base.six, r.base.hi, r.base.lo + i⟩ = true ∧ r.base.lo + i ≤ 18446744073709551615 := by
  have h64 : (2 : Nat) ^ 64 = 18446744073709551616 := by decide
  have h32 : (2 : Nat) ^ 32 = 4294967296 := by decide
  obtain ⟨z1, z2, z3, z4⟩ := gm hz
  obtain ⟨m, hm⟩ : ∃ m : Nat, r.bits = m := ⟨r.bits.toNat, by omega⟩
  obtain ⟨j, rfl⟩ : ∃ j : Nat, i = j := ⟨i.toNat, by omega⟩
  have hs := size_pow hz hm
  have hs2 := eD r
  obtain ⟨⟨s, hi, lo⟩, bits⟩ := r
  obtain ⟨⟨a1, a2, a3, a4⟩, _⟩ := hr
  dsimp only at *
  subst hm
  cases s with
  | true =>
    rw [cr, if_pos rfl] at z3 hs
    rw [gG rfl (by omega) ⟨a1, a2⟩ ⟨a3, a4⟩] at z4
    have g1 := congrArg Ad.hi z4; have g2 := congrArg Ad.lo z4
    dsimp only at g1 g2
    have hj : j < 2 ^ (64 - (m - 64)) := by
      by_cases h : m ≤ 64
      · rw [show 64 - (m - 64) = 64 by omega]; omega
      · rw [show 64 - (m - 64) = (128 : Int).toNat - m by omega]; omega
    obtain ⟨c1, c2⟩ := cut_add (n := 64) (m := m - 64) (x := lo.toNat) (i := j) (by omega) (by omega) (by omega) hj
    have hck : cn ⟨true, hi, lo + j⟩ = 0 := by rw [cn, if_neg]; exact fun h => nomatch h.1
    refine ⟨?_, ?_, by omega⟩
    · rw [cD, if_neg (fun h => h z1), if_neg]
      · rw [g8, if_pos rfl]
        congr 1
        simp only [hiS, loS, loC, Ad.mk.injEq, true_and]
        omega
      · rw [carA, if_pos rfl, g8, if_pos rfl]
        simp only [hiC, loC]
        have : cn ⟨true, hiS ⟨true, hi, lo⟩ j, loS ⟨true, hi, lo⟩ j⟩ = 0 := by rw [cn, if_neg]; exact fun h => nomatch h.1
        rw [this]
        omega
    · rw [ci, decide_eq_true hz, decide_eq_true hck, decide_eq_true rfl, decide_eq_true]; · rfl
      rw [gG rfl (by omega) ⟨a1, a2⟩ (by dsimp only; omega)]
      dsimp only
      rw [show (lo + (j : Int)).toNat = lo.toNat + j by omega, c2, g1]
      simp only [Ad.mk.injEq, true_and]; omega
  | false =>
    have hlo : lo < 4294967296 ∧ hi = 0 := by
      unfold cn at z1
      split at z1
      · exact absurd z1 (by decide)
      · rename_i q; have q2 : ¬ (hi ≠ 0 ∨ 4294967296 ≤ lo) := fun x => q ⟨rfl, x⟩; omega
    obtain ⟨b1, rfl⟩ := hlo
    rw [cr, if_neg (fun h => nomatch h)] at z3 hs
    rw [f5 rfl (by omega) ⟨a3, b1⟩] at z4
    have g2 := congrArg Ad.lo z4
    dsimp only at g2
    have hj : j < 2 ^ (32 - m) := by rw [show 32 - m = (32 : Int).toNat - m by omega]; omega
    obtain ⟨c1, c2⟩ := cut_add (n := 32) (m := m) (x := lo.toNat) (i := j) (by omega) (by omega) (by omega) hj
    have hck : cn ⟨false, 0, lo + j⟩ = 0 := by rw [cn, if_neg]; exact fun h => h.2.elim (fun e => e rfl) (fun e => by dsimp only at e; omega)
    refine ⟨?_, ?_, by omega⟩
    · have hl : loS ⟨false, 0, lo⟩ j = lo + j := by simp only [loS]; omega
      rw [cD, if_neg (fun h => h z1), if_neg]
      · rw [g8, if_neg (fun h => nomatch h), hl]
      · rw [carA, if_neg (fun h => nomatch h), g8, if_neg (fun h => nomatch h), hl, hck]
        simp only [loC]
        omega
    · rw [ci, decide_eq_true hz, decide_eq_true hck, decide_eq_true rfl, decide_eq_true]; · rfl
      rw [f5 rfl (by omega) (by dsimp only; omega)]
      dsimp only
      rw [show (lo + (j : Int)).toNat = lo.toNat + j by omega, c2]
      simp only [Ad.mk.injEq, true_and]; omega
theorem at_add {r : Rg} {i : Int} (h0 : 0 ≤ i) (hi : i < bj r) : atR r i = cD r.base i := if_neg (by omega)
/-- The places that are nobody's. -/
def plcV (v : Vp) : List Ad := (dQ v.rg).filter (dJ v.res)
theorem each_nodup {r : Rg} (hr : RgOk r) (hz : cw r = 0) : (dQ r).Nodup := by
  rw [dQ, List.Nodup, List.pairwise_map]
  refine List.Pairwise.imp_of_mem (fun {a b} ha hb hne e => ?_) List.nodup_range
  rw [List.mem_range] at ha hb
  rw [(at_ok hr hz (Int.natCast_nonneg a) (by omega)).1, (at_ok hr hz (Int.natCast_nonneg b) (by omega)).1] at e
  have := congrArg Ad.lo e
  dsimp only at this
  exact hne (by omega)
theorem each_mem {r : Rg} {a : Ad} : a ∈ dQ r ↔ ∃ i : Int, 0 ≤ i ∧ i < bj r ∧ a = (atR r i).1 := by
  rw [dQ, List.mem_map]
  constructor
  · rintro ⟨k, hk, rfl⟩
    rw [List.mem_range] at hk
    exact ⟨k, Int.natCast_nonneg k, by omega, by rw [at_add (by omega) (by omega)]⟩
  · rintro ⟨i, h0, hi, rfl⟩
    exact ⟨i.toNat, List.mem_range.2 (by omega), by rw [at_add h0 hi, Int.toNat_of_nonneg h0]⟩
structure HInv (v : Vp) (hm : Hm) : Prop where
  inv : PInv hm
  pl : ∀ p ∈ hm, p.2.ad ∈ plcV v
theorem HInv.nil {v : Vp} : HInv v [] := ⟨⟨.nil, .nil, nofun⟩, nofun⟩
theorem HInv.filter {v : Vp} {hm : Hm} (h : HInv v hm) (P : aV × Hd → Bool) : HInv v (hm.filter P) := ⟨h.inv.filter P, fun p hp => h.pl p (List.mem_filter.1 hp).1⟩
theorem HInv.give {v : Vp} {hm : Hm} {n : aV} (h : HInv v hm) (hn : bl n = true) : HInv v (bK v hm (bw hm) n).2.1 := by
  refine ⟨(iV h.inv n).2.1, fun p hp => ?_⟩
  rcases ii (v := v) (hm := hm) hn with ⟨g1, _⟩ | ⟨i, h1, h2, h3, _, _, g1⟩
  · rw [g1] at hp; exact h.pl p hp
  · rw [g1, List.mem_append] at hp
    rcases hp with hp | hp
    · exact h.pl p hp
    · rw [List.mem_singleton.1 hp]
      simp only [cX, Bool.and_eq_true] at h3
      exact List.mem_filter.2 ⟨each_mem.2 ⟨i, h1, h2, rfl⟩, h3.2⟩
theorem HInv.fold {v : Vp} : ∀ {hosts : List aV} {s : Hm × List aV}, (∀ n ∈ hosts, bl n = true) → HInv v s.1 → HInv v (hosts.foldl (fI v) s).1
  | [], _, _, h => h
  | n :: t, s, hh, h => HInv.fold (hosts := t) (s := fI v s n) (fun x hx => hh x (.tail _ hx)) (h.give (hh n (.head _)))
theorem HInv.keep {v : Vp} {hm : Hm} {hosts : List aV} (h : HInv v hm) : HInv v (cZ v hm hosts).2 := by
  by_cases hk : hosts.all bl = false
  · rw [show cZ v hm hosts = (([], 2), hm) from if_pos hk]; exact h
  · rw [show cZ v hm hosts = (((ew v (dx hm hosts) hosts).2, 0), (ew v (dx hm hosts) hosts).1) from if_neg hk]
    exact HInv.fold (s := (dx hm hosts, [])) (all_ok14 hk) (h.filter _)
theorem HInv.len {v : Vp} {hm : Hm} (h : HInv v hm) : hm.length ≤ dv v.rg v.res := by
  have := nd_len h.inv.ads (m := plcV v) fun a ha => by
    obtain ⟨p, hp, rfl⟩ := List.mem_map.1 ha
    exact h.pl p hp
  rw [List.length_map] at this; exact this
/-- Where giving fails, all that is free is given. -/
theorem HInv.full {v : Vp} {hm : Hm} (h : HInv v hm) (hr : RgOk v.rg) (hz : cw v.rg = 0) (hroom : v.room = dv v.rg v.res) (hf : FailV v hm) : hm.length = dv v.rg v.res := by
  rcases hf with hf | hf
  · omega
  · refine Nat.le_antisymm h.len ?_
    have := nd_len (l := plcV v) (m := hm.map fun p => p.2.ad) ((each_nodup hr hz).sublist List.filter_sublist) fun a ha => by
      obtain ⟨h1, h2⟩ := List.mem_filter.1 ha
      obtain ⟨i, i0, i1, rfl⟩ := each_mem.1 h1
      have h3 := hf i i0 i1
      rw [cX, h2, Bool.and_true, Bool.not_eq_false', lkp_mem, fg] at h3
      exact h3
    rw [List.length_map] at this; exact this
def gx (l : List aV) (n : aV) : Bool := l.any fun x => eY x n
theorem hostOk_iff {n : aV} : bl n = true ↔ n ≠ [] ∧ bB n = 0 := by simp [bl]
theorem hostOk_len {n : aV} (h : bl n = true) : n.length ≤ 254 := (nameCk_zero.1 (hostOk_iff.1 h).2).1
theorem same_ok {a b : aV} (ha : bl a = true) (hb : bl b = true) : eY a b = true ↔ a6 a = a6 b := by simp [eY, (hostOk_iff.1 ha).2, (hostOk_iff.1 hb).2]
theorem among_iff {l : List aV} {n : aV} (hl : ∀ x ∈ l, bl x = true) (hn : bl n = true) : gx l n = true ↔ a6 n ∈ l.map a6 := by
  rw [gx, List.any_eq_true, List.mem_map]
  constructor
  · rintro ⟨x, hx, h⟩; exact ⟨x, hx, (same_ok (hl x hx) hn).1 h⟩
  · rintro ⟨x, hx, h⟩; exact ⟨x, hx, (same_ok (hl x hx) hn).2 h⟩
theorem among_no {l : List aV} {n : aV} (h : ∀ q, q < l.length → eY (l.getD q []) n = false) : gx l n = false := by
  rw [gx, List.any_eq_false]
  intro x hx
  obtain ⟨q, hq, rfl⟩ := List.mem_iff_getElem.1 hx
  have := h q hq
  rw [List.getD_eq_getElem?_getD, List.getElem?_eq_getElem hq] at this
  rw [show eY l[q] n = false from this]; decide
theorem among_yes {l : List aV} {n : aV} {q : Nat} (hq : q < l.length) (h : eY (l.getD q []) n = true) : gx l n = true := List.any_eq_true.2 ⟨_, bX hq, h⟩
theorem ofV_ok {hm : Hm} {n : aV} (h : bl n = true) : ofV hm n = (((cA hm (a6 n)).getD ct).ad, (cA hm (a6 n)).isSome) := if_neg (by rw [h]; decide)
section
variable {v : Vp} {hm hm2 : Hm} {hosts ls : List aV} {er : Int} (hK : cZ v hm hosts = ((ls, er), hm2))
include hK
end
theorem at_adok {r : Rg} {i : Int} (hr : RgOk r) (hz : cw r = 0) (h0 : 0 ≤ i) (hi : i < bj r) : gO (atR r i).1 := by
  obtain ⟨h1, h2, h3⟩ := at_ok hr hz h0 hi
  rw [at_add h0 hi, h1]
  obtain ⟨a1, a2, a3, a4⟩ := hr.1
  exact ⟨a1, a2, by show 0 ≤ r.base.lo + i; omega, h3⟩
end Go.Proofs.YtnpdgmoeoidppaaGreat

/- law 14: two pools of one kind, what they keep -/
namespace Go.Proofs.YtnpdgmoeoidppaaGreat
open Go.RowKit Go.Shelf
set_option linter.unusedVariables false
set_option linter.unusedSimpArgs false

instance : DecidableEq Hd := fun a b => if h : a.host = b.host ∧ a.ad = b.ad then .isTrue (by cases a; cases b; cases h.1; cases h.2; rfl) else .isFalse (fun e => h (by rw [e]; exact ⟨rfl, rfl⟩))
theorem eqd_hd (a b : Hd) : EqD Tryz.prog 3 46 (.agg (d4 a).toArray) (.agg (d4 b).toArray) (decide (a = b)) := by
  have h : EqD Tryz.prog 3 46 (.agg (d4 a).toArray) (.agg (d4 b).toArray) ((a.host == b.host) && (decide (a.ad = b.ad) && true)) :=
    eqd_struct (n := 2) Tryz.underlying46 (by kernel_rfl) (gJ (v := .string (ba a.host)) (u := .string (ba b.host)) (by kernel_rfl) (fun _ => by kernel_rfl) (fun _ => by kernel_rfl) (eqd_str Tryz.underlying26) rfl (gJ (v := .agg (dN a.ad).toArray) (u := .agg (dN b.ad).toArray) (by kernel_rfl) (fun _ => by kernel_rfl) (fun _ => by kernel_rfl) (fq a.ad b.ad) rfl eqf_nil))
  have e : ((a.host == b.host) && (decide (a.ad = b.ad) && true)) = decide (a = b) := by
    cases a; cases b
    rw [Bool.eq_iff_iff]
    simp
  rw [e] at h; exact h
theorem Hp.memS {ok0 : Nat → Prop} {w0 w : World} {L S M : List Ch} {c : Ch} (h : Hp ok0 w0 L S w) (hM : Ch.rall M ∈ S) (hc : c ∈ M) : Hp ok0 w0 L (c :: S) w :=
  h.share (Upd.refl _ _) c (h.sh _ hM c hc) (fun b hb => .inr ⟨_, hM, c, hc, hb⟩)
def vR (rg : Rg) (res : List Rg) : Vp := ⟨rg, res, none, 0, dv rg res, 0, 0, 0⟩
theorem c_kE {v : Vp} {rg : Rg} {res : List Rg} (h : v.rg = rg ∧ v.res = res ∧ v.room = dv rg res) (hr : RgOk rg) (hrs : ∀ x ∈ res, RgOk x) (hl : res.length ≤ 4398046510976) {hm hm2 : Hm} {hosts ls : List aV} {er : Int} (hK : cZ (vR rg res) hm hosts = ((ls, er), hm2)) (A : Option Addr) (c : Nat) (hi0 : PInv hm) (hml : hm.length + hosts.length ≤ 1000000) (hhb : ∀ n ∈ hosts, n.length ≤ 1000000000) :
    UC Tryz.prog 41 #[.pointer (some ⟨v.b, 0, none⟩), .slice A hosts.length c] [Ch.row v.b (vpC v) 146, Ch.rd v.A 4 dR v.res, Ch.rd A 1 dw hosts] (vmC v hm (bw hm)) (α := Option Addr × Nat) (fun p => .tuple #[.slice p.1 ls.length p.2, .int .i64 er]) (fun p => Ch.two (vmC v hm2 (bw hm2)) (Ch.ls p.1 p.2 26 1 dw ls)) := by
  have e := c_vKeep v hm hosts A c (new_ok hr hrs hl h) hi0 hml hhb
  rw [keep_cong (v := v) (v' := vR rg res) h, hK] at e
  exact e
theorem keep_nil (v : Vp) (hm : Hm) : cZ v hm [] = (([], 0), []) := by
  have h1 : cZ v hm [] = (((ew v (dx hm []) []).2, 0), (ew v (dx hm []) []).1) := if_neg (by decide)
  rw [h1]
  have h2 : dx hm [] = [] := by rw [dx, List.filter_eq_nil_iff]; intro p _; simp
  rw [h2]; rfl
theorem keep_inv {v : Vp} {hm hm2 : Hm} {hosts ls : List aV} {er : Int} (h : HInv v hm) (hK : cZ v hm hosts = ((ls, er), hm2)) : HInv v hm2 := by
  have := h.keep (hosts := hosts); rw [hK] at this; exact this
theorem lostL_len {hm : Hm} : ∀ {hosts l : List aV}, (lostL hm l hosts).length ≤ l.length + hosts.length
  | [], _ => Nat.le_refl _
  | n :: t, l => by
    have h := lostL_len (hm := hm) (hosts := t) (l := iN hm l n)
    have h2 : (iN hm l n).length ≤ l.length + 1 := by
      unfold iN; split
      · simp
      · omega
    rw [List.length_cons]
    exact Nat.le_trans h (by omega)
theorem lost_len14 {v : Vp} {hm hm2 : Hm} {hosts ls : List aV} {er : Int} (hK : cZ v hm hosts = ((ls, er), hm2)) : ls.length ≤ hosts.length := by
  by_cases h : hosts.all bl = false
  · rw [show cZ v hm hosts = (([], 2), hm) from if_pos h] at hK
    cases hK; exact Nat.zero_le _
  · have h1 := (keep_kept (v := v) (hm := hm) h).1.lost
    rw [hK] at h1
    dsimp only at h1
    rw [h1]
    have := lostL_len (hm := hm2) (hosts := hosts) (l := [])
    simpa using this
theorem cks_head {rg : Rg} {res : List Rg} (h : dn (rg :: res) = 0) : cw rg = 0 := by
  refine Decidable.not_not.1 fun e => ?_
  rw [dn, if_pos e] at h; exact e h
theorem iS {rg : Rg} {res : List Rg} {hm : Hm} (h : HInv (vR rg res) hm) : hm.length ≤ 65536 := Nat.le_trans h.len (free_le rg res)
theorem perm_len {o : List Hd} {hm : Hm} (h : o.Perm (hm.map (·.2))) : o.length = hm.length := by rw [h.length_eq, List.length_map]

set_option maxRecDepth 100000 in
theorem hB (xs ys : List Hd) (A B : Option Addr) (c e : Nat) (hl : xs.length ≤ 1000000000000) : RC Tryz.prog 42 #[.slice A xs.length c, .slice B ys.length e] [Ch.rd A 4 d4 xs, Ch.rd B 4 d4 ys] (α := Unit) (fun _ => .bool (decide (xs = ys))) (fun _ => []) := by
 refine bi (args := [.slice A xs.length c, .slice B ys.length e]) 26 Tryz.func42 rfl rfl rfl (fun w0 => ?_)
 refine ao ?_
 refine ab ?_
 refine ap (ai rfl) rfl rfl ?_
 refine ae ?_
 refine aj ?_
 refine ao ?_
 refine ao ?_
 refine ab ?_
 refine ap (ak rfl) rfl rfl ?_
 refine ap (bM Tryz.underlying25 rfl) rfl rfl ?_
 refine ap (ak rfl) rfl rfl ?_
 refine ap (bM Tryz.underlying25 rfl) rfl rfl ?_
 refine ap (cv rfl rfl) rfl rfl ?_
 refine aC (t := 10) rfl (fun h1_4 => ?_) (fun h1_4 => ?_)
 refine ae ?_
 refine aj ?_
 refine ay rfl ?_
 refine ao ?_
 refine ab ?_
 refine ap (ai rfl) rfl rfl ?_
 refine ae ?_
 refine aj ?_
 refine aF ?_
 refine aA ?_
 refine aJ (ts := [4]) rfl rfl rfl (fun w hw => ?_)
 have hne : xs ≠ ys := fun he => by rw [he] at h1_4; exact absurd rfl h1_4
 exact ⟨(), by rw [decide_eq_false hne]; rfl, hw.base, hw.toNews⟩
 refine ae ?_
 refine aj ?_
 refine au rfl ?_
 refine aH ?_
 refine aj ?_
 refine ao ?_
 refine ao ?_
 refine ab ?_
 refine ap (ai rfl) rfl rfl ?_
 refine ae ?_
 refine aj ?_
 refine aP ?_
 refine b8 (σ := Nat) [4, 5, 11, 12, 13, 14, 15, 16, 17, 18, 19, 20, 21, 22, 23, 24, 25] (fun k => k ≤ xs.length ∧ xs.take k = ys.take k) (fun k => xs.length - k) (fun k => [(5, .int .i64 k)]) (0) ?_ ⟨rfl, trivial⟩ (fun k hI => ?_)
 exact ⟨Nat.zero_le _, rfl⟩
 refine ao ?_
 refine ao ?_
 refine ab ?_
 refine ap (ak rfl) rfl rfl ?_
 refine ap (ak rfl) rfl rfl ?_
 refine ap (bM Tryz.underlying25 rfl) rfl rfl ?_
 refine ap (bF rfl rfl) rfl rfl ?_
 refine aC (t := 14) rfl (fun h4_3 => ?_) (fun h4_3 => ?_)
 refine ae ?_
 refine aj ?_
 refine ay rfl ?_
 refine aH ?_
 refine aj ?_
 refine ao ?_
 refine aP ?_
 refine ao ?_
 refine eh 9 rfl mixed ?_
 refine aD (i := 0) rfl ah (ak rfl) aw aw rfl (aa (aq (aa (av (aq (aa ar)))))) (by kernel_rfl) rfl ?_
 refine aD (i := 1) rfl ah (ak rfl) aw aw rfl (aa (aq (aa (av (aq (aa ar)))))) (by kernel_rfl) rfl ?_
 refine aD (i := 2) rfl ah (bP  Tryz.underlying25 bh rfl rfl (bY 0 rfl) rfl (by omega)) aw aw rfl (aa (aq (aa (av (aq (aa ar)))))) (by kernel_rfl) rfl ?_
 refine aD (i := 3) rfl ah (dV bI ct bh rfl (bY 0 rfl) (by omega) rfl rfl rfl) aw aw rfl (aa (aq (aa (av (aq (aa ar)))))) (by kernel_rfl) rfl ?_
 refine aD (i := 4) rfl ah (ak rfl) aw aw rfl (aa (aq (aa (av (aq (aa ar)))))) (by kernel_rfl) rfl ?_
 refine aD (i := 5) rfl ah (ak rfl) aw aw rfl (aa (aq (aa (av (aq (aa ar)))))) (by kernel_rfl) rfl ?_
 refine aD (i := 6) rfl ah (bP  Tryz.underlying25 bh rfl rfl (bY 1 rfl) rfl (by omega)) aw aw rfl (aa (aq (aa (av (aq (aa ar)))))) (by kernel_rfl) rfl ?_
 refine aD (i := 7) rfl ah (dV bI ct bh rfl (bY 1 rfl) (by omega) rfl rfl rfl) aw aw rfl (aa (aq (aa (av (aq (aa ar)))))) (by kernel_rfl) rfl ?_
 refine aD (i := 8) rfl ah (y_nestd (by kernel_rfl) rfl rfl (eqd_hd _ _) rfl) aw aw rfl (aa (aq (aa (av (aq (aa ar)))))) (by kernel_rfl) rfl ?_
 refine cT (t := 25) rfl (fun h6_8 => ?_) (fun h6_8 => ?_)
 refine cB (by kernel_rfl) ?_
 refine aj ?_
 refine ay rfl ?_
 refine ao ?_
 refine ab ?_
 refine ap (ai rfl) rfl rfl ?_
 refine ae ?_
 refine aj ?_
 refine aF ?_
 refine aL ?_
 refine aA ?_
 refine bu ?_
 refine aL ?_
 refine aA ?_
 refine aJ (ts := [4]) rfl rfl rfl (fun w hw => ?_)
 focus first
   | (have hne : xs ≠ ys := gn ct (k := k) (by simpa using h6_8)
      exact ⟨(), by rw [decide_eq_false hne]; rfl, hw.base, hw.toNews⟩)
   | (have hk : k = xs.length := by omega
      have he : xs = ys := by have := hI.2; rw [hk, List.take_length, List.take_of_length_le (by omega)] at this; exact this
      exact ⟨(), by rw [decide_eq_true he]; rfl, hw.base, hw.toNews⟩)
 refine cB (by kernel_rfl) ?_
 refine aj ?_
 refine au rfl ?_
 refine aH ?_
 refine bq ?_
 refine aj ?_
 refine ab ?_
 refine ap (ak rfl) rfl rfl ?_
 refine ap (bg rfl rfl (by omega) (by omega)) rfl rfl ?_
 refine ap (ai rfl) rfl rfl ?_
 refine ae ?_
 refine bo (k + 1) ?_ ?_ ⟨rfl, trivial⟩ (by repeat (first | exact trivial | refine ⟨rfl, ?_⟩)) aw
 exact ⟨by omega, iZ ct (by omega) (by omega) hI.2 (by simpa using h6_8)⟩
 omega
 refine ae ?_
 refine aj ?_
 refine au rfl ?_
 refine bC ?_
 refine aY ?_
 refine aU ?_
 refine a8 ?_
 refine aj ?_
 refine ao ?_
 refine ab ?_
 refine ap (ai rfl) rfl rfl ?_
 refine ae ?_
 refine aj ?_
 refine aF ?_
 refine aJ (ts := [4]) rfl rfl rfl (fun w hw => ?_)
 focus first
   | (have hne : xs ≠ ys := gn ct (k := k) (by simpa using h6_8)
      exact ⟨(), by rw [decide_eq_false hne]; rfl, hw.base, hw.toNews⟩)
   | (have hk : k = xs.length := by omega
      have he : xs = ys := by have := hI.2; rw [hk, List.take_length, List.take_of_length_le (by omega)] at this; exact this
      exact ⟨(), by rw [decide_eq_true he]; rfl, hw.base, hw.toNews⟩)
end Go.Proofs.YtnpdgmoeoidppaaGreat

/- ranges: the document places, who is free -/
namespace Go.Proofs.YtnpdgmoeoidppaaGreat
open Go.RowKit Go.Shelf
set_option linter.unusedVariables false
set_option linter.unusedSimpArgs false

theorem ent_162 : Enters Tryz.prog 162 := enters_of Tryz.func162 (by kernel_rfl) rfl
theorem ent_93 : Enters Tryz.prog 93 := enters_of Tryz.func93 (by kernel_rfl) rfl
theorem ent_94 : Enters Tryz.prog 94 := enters_of Tryz.func94 (by kernel_rfl) rfl

theorem dY {x : Cx} {C : World → Prop} {l : Fr} {L S : List Ch} {Q : Exit → Act → World → Prop} {ops : Array Oper} {fuel m : Nat} {listed : Array Bool} {i d : Nat} {op : Op} {ty : TypeId} {pos : String} {af : Array Edge} {gd : Option (Nat × Bool)} {listed' : Array Bool} (hi : ops[i]? = some ⟨some d, op, ty, pos, af, gd⟩) (hw : ∀ a, Kn x.N x.ds l a → Region.wanted ⟨some d, op, ty, pos, af, gd⟩ (yielded ops a.tmps) = false)
    (hC : ∀ w, Hp x.ok0 x.w0 L S w → C w) (hN : Nat.blt d x.N = true) (hpk : PkOk Q)
    (hs : (Region.noSelect ops && Region.free .any ops listed i && (Region.ready .any ops listed).contains i && iu ops m i && Nat.blt i m && ef m listed && iI ops listed) = true) (hl : listed.setIfInBounds i true = listed')
    (k : WU x C m ops fuel listed' ((d, undef) :: l) L S Q) : WU x C m ops (fuel + 1) listed l L S Q := fun a w ha hh => by
  simp only [Bool.and_eq_true] at hs
  obtain ⟨⟨⟨⟨⟨⟨h1, h2⟩, h3⟩, h4⟩, h5⟩, h6⟩, h7⟩ := hs
  exact iA hi (Region.noSelect_spec h1) (fun c a w h => hpk c a w _ _ h) h4 (Nat.le_of_ble_eq_true h5) fuel listed a w h6 (closed_of h7) (Region.free_spec hi h2) (by simpa using h3) (.inr ⟨hw a ha, rfl⟩) (hC w hh) (by rw [hl]; exact k _ w (ha.put (Nat.le_of_ble_eq_true hN) undef) hh)

theorem at_four {r : Rg} {i : Int} (hr : RgOk r) (hz : cw r = 0) (h0 : 0 ≤ i) (hi : i < bj r) (h6 : r.base.six = false) : r.base.lo + i < 4294967296 := by
  obtain ⟨_, h2, _⟩ := at_ok hr hz h0 hi
  simp only [ci, Bool.and_eq_true, decide_eq_true_eq] at h2
  have h3 := h2.2.1
  unfold cn at h3
  split at h3
  · exact absurd h3 (by decide)
  · rename_i q; have q2 : ¬ (r.base.hi ≠ 0 ∨ 4294967296 ≤ r.base.lo + i) := fun x => q ⟨h6, x⟩; omega
theorem size_pos {r : Rg} {i : Int} (h0 : 0 ≤ i) (hi : i < bj r) : cw r = 0 := by
  refine Decidable.not_not.1 fun h => ?_
  rw [bj, if_pos h] at hi; omega
theorem un_end {res : List Rg} {a : Ad} {k : Nat} {fr : Bool} (hI : k ≤ res.length ∧ fr = !((res.take k).any fun x => ci x a)) (h : ¬ (k : Int) < res.length ∨ fr = false) : dJ res a = fr := by
  obtain ⟨h1, h2⟩ := hI
  rw [dJ, h2]
  rcases h with h | h
  · rw [List.take_of_length_le (by omega)]
  · rw [h2, Bool.not_eq_false'] at h
    rw [h]
    obtain ⟨x, hx, hx2⟩ := List.any_eq_true.1 h
    rw [List.any_eq_true.2 ⟨x, List.mem_of_mem_take hx, hx2⟩]
theorem un_step {res : List Rg} {a : Ad} {k : Nat} {fr : Bool} (hk : k < res.length) (h : fr = !((res.take k).any fun x => ci x a)) (hf : fr = true) : (!ci (res.getD k hU) a) = !((res.take (k + 1)).any fun x => ci x a) := by
  rw [bH res hU k hk, List.any_append]
  rw [h, Bool.not_eq_true'] at hf
  rw [hf]; simp
theorem g6 {rg : Rg} {res : List Rg} {i : Nat} (hi : i < bj rg) : (((dQ rg).take (i + 1)).filter (dJ res)).length = (((dQ rg).take i).filter (dJ res)).length + if dJ res (cD rg.base i).1 = true then 1 else 0 := by
  rw [bH (dQ rg) ad0 i (by rw [eM]; exact hi), iv hi, free_snoc]

theorem c_ref04_Add (a : Ad) (d : Int) (hc : cn a = 0) (h0 : 0 ≤ a.lo ∧ 0 ≤ d) (h1 : a.lo + d ≤ 18446744073709551615) (h2 : a.six = false → a.lo + d < 4294967296) : RC Tryz.prog 162 #[.agg (dN a).toArray, .int .u64 d] [] (α := Unit) (fun _ => .tuple #[.agg (dN ⟨a.six, a.hi, a.lo + d⟩).toArray, .bool true]) (fun _ => []) := by
 refine bi (args := [.agg (dN a).toArray, .int .u64 d]) 44 Tryz.func162 rfl rfl rfl (fun w0 => ?_)
 refine ao ?_
 refine ab ?_
 refine bE rfl rfl rfl (fun b1 => ?_)
 refine bz aN rfl rfl (fun b2 => ?_)
 refine ap (ai rfl) rfl rfl ?_
 refine ae ?_
 refine aj ?_
 refine ao ?_
 refine ao ?_
 refine ab ?_
 refine ap (aK 1 aN rfl rfl rfl rfl) rfl rfl ?_
 refine aS rfl ent_79 (fN a h0.1) rfl ?_
 refine ap (cv rfl rfl) rfl rfl ?_
 refine e5 (t := 10) rfl (fun h => h hc) ?_
 refine ae ?_
 refine aj ?_
 refine au rfl ?_
 refine aH ?_
 refine aj ?_
 refine ao ?_
 refine ab ?_
 refine ap (aK 1 aN rfl rfl rfl rfl) rfl rfl ?_
 refine bz aN rfl rfl (fun b3 => ?_)
 refine aT aN rfl rfl rfl .z rfl rfl rfl rfl ?_
 refine ae ?_
 refine aj ?_
 refine ao ?_
 refine ab ?_
 refine ap (aB cW rfl) rfl rfl ?_
 refine ap (aM 2 cP rfl rfl rfl) rfl rfl ?_
 refine ap (ak rfl) rfl rfl ?_
 refine ap (y_add rfl rfl) rfl rfl ?_
 refine bV (t := 16) (.int .u64 (a.lo + d)) rfl (by rw [dy (by omega) (by omega)]) ?_
 refine ap (aB cW rfl) rfl rfl ?_
 refine aT cP rfl rfl rfl .z rfl rfl rfl rfl ?_
 refine ae ?_
 refine aj ?_
 refine ao ?_
 refine ab ?_
 refine ap (aB cW rfl) rfl rfl ?_
 refine ap (aM 0 cP rfl rfl rfl) rfl rfl ?_
 refine ap (aB cW rfl) rfl rfl ?_
 refine ap (aM 2 cP rfl rfl rfl) rfl rfl ?_
 refine ap (bF rfl rfl) rfl rfl ?_
 refine e5 (t := 22) rfl (by omega) ?_
 refine ap (ai rfl) rfl rfl ?_
 refine ae ?_
 refine aj ?_
 refine ao ?_
 refine ao ?_
 refine ab ?_
 refine ap (aB dc rfl) rfl rfl ?_
 refine ap (aM 2 gk rfl rfl rfl) rfl rfl ?_
 refine bk (t := 24) rfl (fun h6_1 => ?_) (fun h6_1 => ?_)
 refine ap (bJ rfl) rfl rfl ?_
 refine ae ?_
 refine aj ?_
 refine au rfl ?_
 refine aH ?_
 refine aj ?_
 refine ao ?_
 refine ao ?_
 refine ab ?_
 refine ap (ak rfl) rfl rfl ?_
 refine ae ?_
 refine aj ?_
 refine au rfl ?_
 refine aH ?_
 refine aj ?_
 refine ao ?_
 refine ab ?_
 refine ap (aK 0 aN rfl rfl rfl rfl) rfl rfl ?_
 refine aT aN rfl rfl rfl (.s (.z)) rfl rfl rfl rfl ?_
 refine ap (ai rfl) rfl rfl ?_
 refine ae ?_
 refine aj ?_
 refine aF ?_
 refine dp (rs := [.cell 4 29, .tmp 5]) rfl (bA 1 aN rfl rfl rfl rfl (cC rfl bR)) rfl (fun w hw => ?_)
 exact ⟨(), rfl, hw.base, (hw.weak (List.nil_sublist _) (fun s hs => hs)).toNews⟩
 refine ap (bJ rfl) rfl rfl ?_
 refine ae ?_
 refine aj ?_
 refine ay rfl ?_
 refine ao ?_
 refine ao ?_
 refine ab ?_
 refine ap (ak rfl) rfl rfl ?_
 refine ap (ak rfl) rfl rfl ?_
 refine az rfl rfl ?_
 refine ap (aB cW rfl) rfl rfl ?_
 refine az rfl rfl ?_
 refine ap (aM 0 cP rfl rfl rfl) rfl rfl ?_
 refine az rfl rfl ?_
 refine ap (gF rfl rfl) rfl rfl ?_
 refine e5 (t := 30) rfl (by have := h2 h6_1; omega) ?_
 refine ap (aW rfl rfl) rfl rfl ?_
 refine ae ?_
 refine aj ?_
 refine au rfl ?_
 refine aH ?_
 refine aj ?_
 refine ao ?_
 refine ab ?_
 refine ap (aK 0 aN rfl rfl rfl rfl) rfl rfl ?_
 refine aT aN rfl rfl rfl (.s (.z)) rfl rfl rfl rfl ?_
 refine ap (ai rfl) rfl rfl ?_
 refine ae ?_
 refine aj ?_
 refine aF ?_
 refine aA ?_
 refine dp (rs := [.cell 4 29, .tmp 5]) rfl (bA 1 aN rfl rfl rfl rfl (cC rfl bR)) rfl (fun w hw => ?_)
 exact ⟨(), rfl, hw.base, (hw.weak (List.nil_sublist _) (fun s hs => hs)).toNews⟩

theorem c_ref05At (r : Rg) (i : Int) (hr : RgOk r) (h0 : 0 ≤ i) (hi : i < bj r) : RC Tryz.prog 93 #[.agg (dR r).toArray, .int .i64 i] [] (α := Unit) (fun _ => .tuple #[.agg (dN (cD r.base i).1).toArray, .bool true]) (fun _ => []) := by
 refine bi (args := [.agg (dR r).toArray, .int .i64 i]) 22 Tryz.func93 rfl rfl rfl (fun w0 => ?_)
 have hz := size_pos h0 hi
 have hat := at_ok hr hz h0 hi
 have hsz := eD r
 have hck : cn r.base = 0 := (gm hz).1
 refine ao ?_
 refine ab ?_
 refine bE rfl rfl rfl (fun b1 => ?_)
 refine bz aN rfl rfl (fun b2 => ?_)
 refine ap (ai rfl) rfl rfl ?_
 refine ae ?_
 refine aj ?_
 refine ao ?_
 refine ao ?_
 refine ab ?_
 refine ap (ak rfl) rfl rfl ?_
 refine ap (bF rfl rfl) rfl rfl ?_
 refine e5 (t := 7) rfl (by omega) ?_
 refine ap (ak rfl) rfl rfl ?_
 refine az rfl rfl ?_
 refine ap (ak rfl) rfl rfl ?_
 refine az rfl rfl ?_
 refine ap (aK 1 cm rfl rfl rfl rfl) rfl rfl ?_
 refine az rfl rfl ?_
 refine aS rfl ent_92 (fK r hr.1) rfl ?_
 refine az rfl rfl ?_
 refine ap (gF rfl rfl) rfl rfl ?_
 refine e5 (t := 12) rfl (by omega) ?_
 refine ap (aW rfl rfl) rfl rfl ?_
 refine ae ?_
 refine aj ?_
 refine au rfl ?_
 refine aH ?_
 refine aj ?_
 refine ao ?_
 refine ab ?_
 refine ap (aB db rfl) rfl rfl ?_
 refine ap (aK 1 aN rfl rfl rfl rfl) rfl rfl ?_
 refine ap (ak rfl) rfl rfl ?_
 refine ap (dS Tryz.underlying3 Tryz.underlying27 rfl (dy (by omega) (by omega))) rfl rfl ?_
 refine bv rfl ent_162 rfl (c_ref04_Add r.base i hck ⟨hr.1.2.2.1, h0⟩ hat.2.2 (at_four hr hz h0 hi)) (fun w hw => bf) ?_
 refine ap (aI rfl rfl) rfl rfl ?_
 refine ap (aI rfl rfl) rfl rfl ?_
 refine aT aN rfl rfl rfl .z rfl rfl rfl rfl ?_
 refine ap (ai rfl) rfl rfl ?_
 refine ae ?_
 refine aj ?_
 refine aF ?_
 refine dp (rs := [.cell 4 29, .tmp 5]) rfl (bA 0 aN rfl rfl rfl rfl (cC rfl bR)) rfl (fun w hw => ?_)
 exact ⟨(), by rw [hat.1]; rfl, hw.base, (hw.weak (List.nil_sublist _) (fun s hs => hs)).toNews⟩

set_option maxRecDepth 100000 in
theorem c_ref05Free (rg : Rg) (res : List Rg) (A : Option Addr) (c : Nat) (hr : RgOk rg) (hrs : ∀ x ∈ res, RgOk x) (hl : res.length ≤ 4398046510976) : RC Tryz.prog 33 #[.agg (dR rg).toArray, .slice A res.length c] [Ch.rd A 4 dR res] (α := Unit) (fun _ => .int .i64 (dv rg res)) (fun _ => []) := by
 refine bi (args := [.agg (dR rg).toArray, .slice A res.length c]) 43 Tryz.func33 rfl rfl rfl (fun w0 => ?_)
 refine ao ?_
 refine ab ?_
 refine bE rfl rfl rfl (fun b1 => ?_)
 refine ap (ai rfl) rfl rfl ?_
 refine ae ?_
 refine aj ?_
 refine ao ?_
 refine ab ?_
 refine ap (ai rfl) rfl rfl ?_
 refine ae ?_
 refine aj ?_
 refine ao ?_
 refine ao ?_
 refine ab ?_
 refine ap (ai rfl) rfl rfl ?_
 refine ae ?_
 refine aj ?_
 refine aP ?_
 refine b8 (σ := Nat) [5, 6, 7, 8, 9, 10, 11, 12, 13, 14, 15, 16, 17, 18, 19, 20, 21, 22, 23, 24, 25, 26, 27, 28, 29, 30, 31, 32, 33, 34, 35, 36, 37, 38, 39, 40, 41] (fun i => i ≤ bj rg) (fun i => bj rg - i) (fun i => [(6, .int .i64 i), (5, .int .i64 (((((dQ rg).take i).filter (dJ res)).length : Nat) : Int))]) (0) ?_ ⟨rfl, rfl, trivial⟩ (fun i hI => ?_)
 exact Nat.zero_le _
 refine ao ?_
 refine ao ?_
 refine ab ?_
 refine ap (ak rfl) rfl rfl ?_
 refine ap (aK 0 cm rfl rfl rfl rfl) rfl rfl ?_
 refine aS rfl ent_92 (fK rg hr.1) rfl ?_
 refine ap (bF rfl rfl) rfl rfl ?_
 refine aC (t := 14) rfl (fun h3_3 => ?_) (fun h3_3 => ?_)
 have hi : i < bj rg := by omega
 have hsz := eD rg
 have hz := size_pos (r := rg) (i := i) (by omega) (by omega)
 have hao : gO (cD rg.base i).1 := by have := at_adok (i := i) hr hz (by omega) (by omega); rwa [at_add (by omega) (by omega)] at this
 have hIo := hI
 have hfl : (((dQ rg).take i).filter (dJ res)).length ≤ i := Nat.le_trans (List.length_filter_le _ _) (by rw [List.length_take]; omega)
 refine ae ?_
 refine aj ?_
 refine ay rfl ?_
 refine aH ?_
 refine aj ?_
 refine ao ?_
 refine aP ?_
 refine ao ?_
 refine ab ?_
 refine ap (aK 0 cm rfl rfl rfl rfl) rfl rfl ?_
 refine ap (ak rfl) rfl rfl ?_
 refine bv rfl ent_93 rfl (c_ref05At rg i hr (by omega) (by omega)) (fun w hw => bf) ?_
 refine ap (ak rfl) rfl rfl ?_
 refine ap (aI rfl rfl) rfl rfl ?_
 refine ap (aI rfl rfl) rfl rfl ?_
 refine bz aN rfl rfl (fun b2 => ?_)
 refine aT aN rfl rfl rfl .z rfl rfl rfl rfl ?_
 refine ap (ai rfl) rfl rfl ?_
 refine ae ?_
 refine aj ?_
 refine ao ?_
 refine ab ?_
 refine ap (ai rfl) rfl rfl ?_
 refine ae ?_
 refine aj ?_
 refine ao ?_
 refine ao ?_
 refine ab ?_
 refine ap (ai rfl) rfl rfl ?_
 refine ae ?_
 refine aj ?_
 refine aP ?_
 refine b8 (σ := Nat × Bool) [9, 10, 23, 24, 25, 26, 27, 28, 29, 30, 31, 32, 33, 34, 35, 36, 37, 38] (fun z => z.1 ≤ res.length ∧ z.2 = !((res.take z.1).any fun x => ci x (cD rg.base i).1)) (fun z => res.length - z.1) (fun z => [(10, .int .i64 z.1), (9, .bool z.2)]) ((0, true)) ?_ ⟨rfl, rfl, trivial⟩ (fun z hI => ?_)
 exact ⟨Nat.zero_le _, rfl⟩
 obtain ⟨k, fr⟩ := z
 dsimp only at hI ⊢
 refine ao ?_
 refine ao ?_
 refine ab ?_
 refine ap (ak rfl) rfl rfl ?_
 refine ap (ak rfl) rfl rfl ?_
 refine ap (bM Tryz.underlying65 rfl) rfl rfl ?_
 refine ap (bF rfl rfl) rfl rfl ?_
 refine aC (t := 26) rfl (fun h8_3 => ?_) (fun h8_3 => ?_)
 refine ap (ak rfl) rfl rfl ?_
 refine az rfl rfl ?_
 refine ap (ak rfl) rfl rfl ?_
 refine bk (t := 28) rfl (fun h8_5 => ?_) (fun h8_5 => ?_)
 have hk : k < res.length := by omega
 refine ap (aX rfl rfl) rfl rfl ?_
 refine ae ?_
 refine aj ?_
 refine ay rfl ?_
 refine aH ?_
 refine aj ?_
 refine ao ?_
 refine aP ?_
 refine de 8 rfl mixed ?_
 refine ax (i := 0) rfl ah (ak rfl) aw aw rfl (aq (aa (av (aq (aa (aq (aa (av (aq (aa ar)))))))))) (by kernel_rfl) rfl ?_
 refine ax (i := 1) rfl ah (ak rfl) aw aw rfl (aq (aa (av (aq (aa (aq (aa (av (aq (aa ar)))))))))) (by kernel_rfl) rfl ?_
 refine ax (i := 2) rfl ah (bP  Tryz.underlying65 cm rfl rfl (bY 0 rfl) rfl (by omega)) aw aw rfl (aq (aa (av (aq (aa (aq (aa (av (aq (aa ar)))))))))) (by kernel_rfl) rfl ?_
 refine ax (i := 3) rfl ah (dV fO hU cm rfl (bY 0 rfl) (by omega) rfl rfl rfl) aw aw rfl (aq (aa (av (aq (aa (aq (aa (av (aq (aa ar)))))))))) (by kernel_rfl) rfl ?_
 refine ax (i := 4) rfl ah (aK 0 aN rfl rfl rfl rfl) aw aw rfl (aq (aa (av (aq (aa (aq (aa (av (aq (aa ar)))))))))) (by kernel_rfl) rfl ?_
 refine bD (i := 5) rfl rfl rfl (br rfl ent_94) (by kernel_rfl) rfl ?_
 refine aS rfl ent_94 (c_ref05Has (res.getD k hU) (cD rg.base i).1 (hrs _ (bX hk)).1 hao) rfl ?_
 refine ae ?_
 refine bc aw ?_
 refine gT (t := 37) rfl (fun h10_5 => ?_) (fun h10_5 => ?_)
 refine ax (i := 6) rfl ah (bJ rfl) aw aw rfl (aq (aa (av (aq (aa (aq (aa (av (aq (aa ar)))))))))) (by kernel_rfl) rfl ?_
 refine ax (i := 7) rfl ah (ai rfl) aw aw rfl (aq (aa (av (aq (aa (aq (aa (av (aq (aa ar)))))))))) (by kernel_rfl) rfl ?_
 refine bQ (by kernel_rfl) ?_
 refine bq ?_
 refine aj ?_
 refine ab ?_
 refine ap (ak rfl) rfl rfl ?_
 refine ap (bg rfl rfl (by omega) (by omega)) rfl rfl ?_
 refine ap (ai rfl) rfl rfl ?_
 refine ae ?_
 refine bo ((k + 1, !ci (res.getD k hU) (cD rg.base i).1)) ?_ ?_ ⟨rfl, lk rfl (congrArg (fun b => Value.bool (!b)) h10_5.symm), trivial⟩ (by repeat (first | exact trivial | refine ⟨rfl, ?_⟩)) aw
 exact ⟨by show k + 1 ≤ _; omega, un_step hk hI.2 h8_5⟩
 show res.length - (k + 1) < res.length - k
 omega
 refine ax (i := 6) rfl ah (bJ rfl) aw aw rfl (aq (aa (av (aq (aa (aq (aa (av (aq (aa ar)))))))))) (by kernel_rfl) rfl ?_
 refine ax (i := 7) rfl ah (ai rfl) aw aw rfl (aq (aa (av (aq (aa (aq (aa (av (aq (aa ar)))))))))) (by kernel_rfl) rfl ?_
 refine bQ (by kernel_rfl) ?_
 refine bq ?_
 refine aj ?_
 refine ab ?_
 refine ap (ak rfl) rfl rfl ?_
 refine ap (bg rfl rfl (by omega) (by omega)) rfl rfl ?_
 refine ap (ai rfl) rfl rfl ?_
 refine ae ?_
 refine bo ((k + 1, !ci (res.getD k hU) (cD rg.base i).1)) ?_ ?_ ⟨rfl, lk rfl (congrArg (fun b => Value.bool (!b)) h10_5.symm), trivial⟩ (by repeat (first | exact trivial | refine ⟨rfl, ?_⟩)) aw
 exact ⟨by show k + 1 ≤ _; omega, un_step hk hI.2 h8_5⟩
 show res.length - (k + 1) < res.length - k
 omega
 refine ap (aX rfl rfl) rfl rfl ?_
 refine ae ?_
 refine aj ?_
 refine au rfl ?_
 refine bC ?_
 refine aY ?_
 refine aU ?_
 refine a8 ?_
 refine aj ?_
 refine ao ?_
 have hun := un_end hI (by first | exact .inl h8_3 | exact .inr h8_5)
 refine ab ?_
 refine ap (ak rfl) rfl rfl ?_
 refine bk (t := 39) rfl (fun h11_0 => ?_) (fun h11_0 => ?_)
 refine ae ?_
 refine aj ?_
 refine ay rfl ?_
 refine ab ?_
 refine ap (ak rfl) rfl rfl ?_
 refine ap (bg rfl rfl (by omega) (by omega)) rfl rfl ?_
 refine ap (ai rfl) rfl rfl ?_
 refine ae ?_
 refine bq ?_
 refine aj ?_
 refine ab ?_
 refine ap (ak rfl) rfl rfl ?_
 refine ap (bg rfl rfl (by omega) (by omega)) rfl rfl ?_
 refine ap (ai rfl) rfl rfl ?_
 refine ae ?_
 refine bo (i + 1) ?_ ?_ ⟨rfl, lk rfl (congrArg (Value.int .i64) (by rw [g6 hi, hun, h11_0] <;> rfl)), trivial⟩ (by repeat (first | exact trivial | refine ⟨rfl, ?_⟩)) (bS 1)
 show i + 1 ≤ _
 omega
 omega
 refine ae ?_
 refine aj ?_
 refine au rfl ?_
 refine aH ?_
 refine bq ?_
 refine aj ?_
 refine ab ?_
 refine ap (ak rfl) rfl rfl ?_
 refine ap (bg rfl rfl (by omega) (by omega)) rfl rfl ?_
 refine ap (ai rfl) rfl rfl ?_
 refine ae ?_
 refine bo (i + 1) ?_ ?_ ⟨rfl, lk rfl (congrArg (Value.int .i64) (by rw [g6 hi, hun, h11_0] <;> rfl)), trivial⟩ (by repeat (first | exact trivial | refine ⟨rfl, ?_⟩)) (bS 1)
 show i + 1 ≤ _
 omega
 omega
 refine ap (ak rfl) rfl rfl ?_
 refine aO rfl rfl rfl rfl ?_
 refine ap (aW rfl rfl) rfl rfl ?_
 refine ae ?_
 refine aj ?_
 refine au rfl ?_
 refine bC ?_
 refine aY ?_
 refine aU ?_
 refine a8 ?_
 refine aj ?_
 refine ao ?_
 have hun := un_end hI (by first | exact .inl h8_3 | exact .inr h8_5)
 refine ab ?_
 refine ap (ak rfl) rfl rfl ?_
 refine bk (t := 39) rfl (fun h11_0 => ?_) (fun h11_0 => ?_)
 refine ae ?_
 refine aj ?_
 refine ay rfl ?_
 refine ab ?_
 refine ap (ak rfl) rfl rfl ?_
 refine ap (bg rfl rfl (by omega) (by omega)) rfl rfl ?_
 refine ap (ai rfl) rfl rfl ?_
 refine ae ?_
 refine bq ?_
 refine aj ?_
 refine ab ?_
 refine ap (ak rfl) rfl rfl ?_
 refine ap (bg rfl rfl (by omega) (by omega)) rfl rfl ?_
 refine ap (ai rfl) rfl rfl ?_
 refine ae ?_
 refine bo (i + 1) ?_ ?_ ⟨rfl, lk rfl (congrArg (Value.int .i64) (by rw [g6 hi, hun, h11_0] <;> rfl)), trivial⟩ (by repeat (first | exact trivial | refine ⟨rfl, ?_⟩)) (bS 1)
 show i + 1 ≤ _
 omega
 omega
 refine ae ?_
 refine aj ?_
 refine au rfl ?_
 refine aH ?_
 refine bq ?_
 refine aj ?_
 refine ab ?_
 refine ap (ak rfl) rfl rfl ?_
 refine ap (bg rfl rfl (by omega) (by omega)) rfl rfl ?_
 refine ap (ai rfl) rfl rfl ?_
 refine ae ?_
 refine bo (i + 1) ?_ ?_ ⟨rfl, lk rfl (congrArg (Value.int .i64) (by rw [g6 hi, hun, h11_0] <;> rfl)), trivial⟩ (by repeat (first | exact trivial | refine ⟨rfl, ?_⟩)) (bS 1)
 show i + 1 ≤ _
 omega
 omega
 refine ae ?_
 refine aj ?_
 refine au rfl ?_
 refine bC ?_
 refine aY ?_
 refine aU ?_
 refine a8 ?_
 refine aj ?_
 refine ao ?_
 refine ab ?_
 refine ap (ak rfl) rfl rfl ?_
 refine ap (ai rfl) rfl rfl ?_
 refine ae ?_
 refine aj ?_
 refine aF ?_
 refine aJ (ts := [4]) rfl rfl rfl (fun w hw => ?_)
 have hE : dv rg res = (((dQ rg).take i).filter (dJ res)).length := by rw [List.take_of_length_le (by rw [eM]; omega)]; rfl
 exact ⟨(), by rw [hE]; rfl, hw.base, (hw.weak (List.nil_sublist _) (fun s hs => hs)).toNews⟩

end Go.Proofs.YtnpdgmoeoidppaaGreat

/- law 14: a push twice -/
namespace Go.Proofs.YtnpdgmoeoidppaaGreat
open Go.RowKit Go.Shelf
set_option linter.unusedVariables false
set_option linter.unusedSimpArgs false

theorem ent_26 : Enters Tryz.prog 26 := enters_of Tryz.func26 (by kernel_rfl) rfl
theorem ent_30 : Enters Tryz.prog 30 := enters_of Tryz.func30 (by kernel_rfl) rfl
theorem ent_32 : Enters Tryz.prog 32 := enters_of Tryz.func32 (by kernel_rfl) rfl
theorem ent_36 : Enters Tryz.prog 36 := enters_of Tryz.func36 (by kernel_rfl) rfl
theorem ent_40 : Enters Tryz.prog 40 := enters_of Tryz.func40 (by kernel_rfl) rfl
theorem ent_41 : Enters Tryz.prog 41 := enters_of Tryz.func41 (by kernel_rfl) rfl
theorem ent_42 : Enters Tryz.prog 42 := enters_of Tryz.func42 (by kernel_rfl) rfl

end Go.Proofs.YtnpdgmoeoidppaaGreat

/- law 14: who holds what -/
namespace Go.Proofs.YtnpdgmoeoidppaaGreat
open Go.RowKit Go.Shelf
set_option linter.unusedVariables false
set_option linter.unusedSimpArgs false

theorem ent_33 : Enters Tryz.prog 33 := enters_of Tryz.func33 (by kernel_rfl) rfl
theorem ent_37 : Enters Tryz.prog 37 := enters_of Tryz.func37 (by kernel_rfl) rfl
theorem ent_45 : Enters Tryz.prog 45 := enters_of Tryz.func45 (by kernel_rfl) rfl
theorem fa_46_0 : FA Tryz.prog 46 0 0 := fun b o w => by kernel_rfl

end Go.Proofs.YtnpdgmoeoidppaaGreat

/- law 14: a pool is filled -/
namespace Go.Proofs.YtnpdgmoeoidppaaGreat
open Go.RowKit Go.Shelf
set_option linter.unusedVariables false
set_option linter.unusedSimpArgs false

theorem c_gE {v : Vp} {rg : Rg} {res : List Rg} (h : v.rg = rg ∧ v.res = res ∧ v.room = dv rg res) (hr : RgOk rg) (hrs : ∀ x ∈ res, RgOk x) (hl : res.length ≤ 4398046510976) {hm hm2 : Hm} {n : aV} {a : Ad} {e : Int} (hG : bK (vR rg res) hm (bw hm) n = ((a, e), hm2, bw hm2)) (hn : n.length ≤ 1000000000) (hml : hm.length ≤ 1000000) :
    UC Tryz.prog 34 #[.pointer (some ⟨v.b, 0, none⟩), .string (ba n)] [Ch.row v.b (vpC v) 146, Ch.rd v.A 4 dR v.res] (vmC v hm (bw hm)) (fun _ : Unit => .tuple #[.agg (dN a).toArray, .int .i64 e]) (fun _ : Unit => vmC v hm2 (bw hm2)) := by
  have q := c_vGive v hm (bw hm) n (new_ok hr hrs hl h) hn hml
  rw [give_cong (v := v) (v' := vR rg res) h, hG] at q
  exact q
theorem c_dE {v : Vp} {hm hm2 : Hm} {n : aV} {e : Int} (hD : di hm (bw hm) n = (e, hm2, bw hm2)) (hn : n.length ≤ 1000000000) :
    UC Tryz.prog 38 #[.pointer (some ⟨v.b, 0, none⟩), .string (ba n)] [Ch.row v.b (vpC v) 146] (vmC v hm (bw hm)) (fun _ : Unit => .int .i64 e) (fun _ : Unit => vmC v hm2 (bw hm2)) := by
  have q := c_vDrop v hm (bw hm) n hn
  rw [hD] at q
  exact q
theorem full_has {v : Vp} {hm : Hm} (h : HInv v hm) (hl : hm.length = dv v.rg v.res) {a : Ad} (ha : a ∈ plcV v) : a ∈ hm.map fun p => p.2.ad := by
  refine Decidable.not_not.1 fun hno => ?_
  have := nd_len (l := a :: hm.map fun p => p.2.ad) (m := plcV v) (List.nodup_cons.2 ⟨hno, h.inv.ads⟩) (fun b hb => by
    rcases List.mem_cons.1 hb with rfl | hb
    · exact ha
    · obtain ⟨p, hp, rfl⟩ := List.mem_map.1 hb
      exact h.pl p hp)
  rw [List.length_cons, List.length_map] at this
  have e : (plcV v).length = dv v.rg v.res := rfl
  omega
theorem drop_ok {hm : Hm} (h : PInv hm) {n : aV} (hn : bl n = true) (hk : a6 n ∈ hm.map fun p => p.1) : di hm (bw hm) n = (0, hm.filter (fun p => decide (p.1 ≠ a6 n)), bw (hm.filter fun p => decide (p.1 ≠ a6 n))) := by
  have h1 := lkp_mem.2 hk
  rw [di, if_neg (by rw [hn]; decide), if_neg (by rw [h1]; decide), drop_am h h1]
end Go.Proofs.YtnpdgmoeoidppaaGreat
