import Derived.Test.YtnpdgmoeoidppaaGreatVdQh
import Derived.Test.YtnpdgmoeoidppaaGreatVkQh
import Derived.Test.YtnpdgmoeoidppaaGreatVnQh
/- vips: what fails goes on failing, in plain words -/
namespace Go.Proofs.YtnpdgmoeoidppaaGreat
open Go.RowKit Go.Shelf
set_option linter.unusedVariables false
set_option linter.unusedSimpArgs false

theorem probe_all {n : aX} {size : Nat} {i : Int} (h : 0 ≤ i ∧ i < size) : i ∈ dh n size := by
  refine List.mem_map.2 ⟨((i - dR n size) % size).toNat, ?_, ?_⟩
  · have h0 := Int.emod_nonneg (i - dR n size) (show (size : Int) ≠ 0 by omega)
    have h1 := Int.emod_lt_of_pos (i - dR n size) (show (0 : Int) < size by omega)
    rw [List.mem_range]; omega
  · have h0 := Int.emod_nonneg (i - dR n size) (show (size : Int) ≠ 0 by omega)
    rw [atH, if_neg (by omega), Int.toNat_of_nonneg h0, Int.add_emod, Int.emod_emod_of_dvd _ (Int.dvd_refl _), ← Int.add_emod]
    rw [show dR n size + (i - dR n size) = i by omega]
    exact Int.emod_eq_of_lt h.1 h.2
/-- No place is free, or the room is out: whatever the name. -/
def FailV (v : Vp) (hm : Hm) : Prop := v.room - hm.length = 0 ∨ ∀ i : Int, 0 ≤ i → i < bk v.rg → du v.res (ci hm) (atR v.rg i).1 = false
theorem probe_none {v : Vp} {hm : Hm} {n : aX} : bB v (ci hm) n = none ↔ ∀ i : Int, 0 ≤ i → i < bk v.rg → du v.res (ci hm) (atR v.rg i).1 = false := by
  rw [bB, List.find?_eq_none]
  constructor
  · intro h i h1 h2
    simpa using h i (probe_all ⟨h1, h2⟩)
  · intro h i hi
    obtain ⟨h1, h2⟩ := fK hi
    rw [h i h1 h2]; decide
theorem fail_of {v : Vp} {hm : Hm} {n : aX} (h : bz n = true) (he : (bI v hm (ci hm) n).1.2 ≠ 0) : FailV v hm := by
  by_cases h2 : (cK hm (aY n)).isSome = true
  · rw [cO h h2] at he; exact absurd rfl he
  · have h2 : (cK hm (aY n)).isSome = false := by simpa using h2
    by_cases h3 : v.room - hm.length = 0
    · exact .inl h3
    · cases hg : bB v (ci hm) n with
      | none => exact .inr (probe_none.1 hg)
      | some i => rw [bV h h2 h3 hg] at he; exact absurd rfl he

theorem lkp_mem {α β : Type} [DecidableEq α] {m : List (α × β)} {a : α} : (cK m a).isSome = true ↔ a ∈ m.map fun p => p.1 := by
  have h := lkp_none_iff (m := m) (a := a)
  cases hl : cK m a with
  | none => rw [hl] at h; simp only [Option.isSome_none, Bool.false_eq_true, false_iff]; exact h.1 rfl
  | some x => rw [hl] at h; simp only [Option.isSome_some, true_iff]; exact Decidable.not_not.1 fun e => by cases h.2 e
def hasK (hm : Hm) (n : aX) : Prop := aY n ∈ hm.map fun p => p.1
/-- What a name that is given leaves: the list as it was, or one more. -/
theorem give_shape {v : Vp} {hm : Hm} {n : aX} (h : bz n = true) : ((bI v hm (ci hm) n).2.1 = hm ∧ ((bI v hm (ci hm) n).1.2 = 0 → hasK hm n)) ∨ (∃ i : Int, 0 ≤ i ∧ i < bk v.rg ∧ du v.res (ci hm) (atR v.rg i).1 = true ∧ ¬ hasK hm n ∧ (bI v hm (ci hm) n).1 = ((atR v.rg i).1, 0) ∧ (bI v hm (ci hm) n).2.1 = hm ++ [(aY n, ⟨n, (atR v.rg i).1⟩)]) := by
  by_cases h2 : (cK hm (aY n)).isSome = true
  · rw [cO h h2]; exact .inl ⟨rfl, fun _ => lkp_mem.1 h2⟩
  · have h3 : (cK hm (aY n)).isSome = false := by simpa using h2
    by_cases h4 : v.room - hm.length = 0
    · rw [cv h h3 h4]; exact .inl ⟨rfl, fun e => absurd (show (10 : Int) = 0 from e) (by decide)⟩
    · cases hg : bB v (ci hm) n with
      | none => rw [bV h h3 h4 hg]; exact .inl ⟨rfl, fun e => absurd (show (10 : Int) = 0 from e) (by decide)⟩
      | some i =>
        rw [bV h h3 h4 hg]
        have hi := fK (List.mem_of_find?_eq_some hg)
        have hf : du v.res (ci hm) (atR v.rg i).1 = true := by
          have := List.find?_some hg
          exact this
        exact .inr ⟨i, hi.1, hi.2, hf, fun e => h2 (lkp_mem.2 e), rfl, rfl⟩
theorem give_not {v : Vp} {hm : Hm} {n : aX} (h : bz n = true) (hf : ¬ FailV v hm) : (bI v hm (ci hm) n).1.2 = 0 := Decidable.not_not.1 fun e => hf (fail_of h e)
theorem all_ok14 {hosts : List aX} (h : ¬ hosts.all bz = false) : ∀ n ∈ hosts, bz n = true := List.all_eq_true.1 (by simpa using h)
end Go.Proofs.YtnpdgmoeoidppaaGreat

/- vips: who is held where, in plain words -/
namespace Go.Proofs.YtnpdgmoeoidppaaGreat
open Go.RowKit Go.Shelf
set_option linter.unusedVariables false
set_option linter.unusedSimpArgs false

theorem nd_len {α : Type} [DecidableEq α] : ∀ {l m : List α}, l.Nodup → (∀ a ∈ l, a ∈ m) → l.length ≤ m.length
  | [], _, _, _ => Nat.zero_le _
  | a :: l, m, hn, h => by
    rw [List.nodup_cons] at hn
    have ha := h a (.head _)
    have h1 := nd_len (l := l) (m := m.erase a) hn.2 fun b hb => (List.mem_erase_of_ne (fun e : b = a => hn.1 (e ▸ hb))).2 (h b (.tail _ hb))
    have h2 := List.length_erase_of_mem ha
    have h3 := List.length_pos_of_mem ha
    rw [List.length_cons]; omega
theorem cut_add {n m x i : Nat} (hx : x < 2 ^ n) (hm : m ≤ n) (hc : dS n m x = x) (hi : i < 2 ^ (n - m)) : x + i < 2 ^ n ∧ dS n m (x + i) = x := by
  obtain ⟨q, hq⟩ : ∃ q, x = q * 2 ^ (n - m) := ⟨x / 2 ^ (n - m), by rw [dS] at hc; exact hc.symm⟩
  have hpos : 0 < 2 ^ (n - m) := Nat.two_pow_pos _
  have hpow : 2 ^ m * 2 ^ (n - m) = 2 ^ n := by rw [← Nat.pow_add]; congr 1; omega
  have hq2 : q < 2 ^ m := by
    rw [hq, ← hpow] at hx; exact Nat.lt_of_mul_lt_mul_right hx
  have h3 : (q + 1) * 2 ^ (n - m) ≤ 2 ^ m * 2 ^ (n - m) := Nat.mul_le_mul_right _ hq2
  rw [Nat.succ_mul] at h3
  constructor
  · rw [← hpow, hq]; omega
  · rw [dS, hq, Nat.add_comm, Nat.add_mul_div_right _ _ hpos, Nat.div_eq_of_lt hi, Nat.zero_add]
theorem size_pow {r : Rg} (hz : bY r = 0) {m : Nat} (hm : r.bits = m) : bk r ≤ 2 ^ ((bO r.base).toNat - m) := by
  have hl := eS hz
  rw [bk, if_neg (fun h => h hz)]
  split
  · rw [show (bO r.base - r.bits).toNat = (bO r.base).toNat - m by omega]; exact Nat.le_refl _
  · rw [show (65536 : Nat) = 2 ^ 16 by decide]
    exact Nat.pow_le_pow_right (by decide) (by omega)
/-- A place of a range: what it is, and that the range has it. -/
theorem at_ok {r : Rg} {i : Int} (hr : RgOk r) (hz : bY r = 0) (h0 : 0 ≤ i) (hlt : i < bk r) : bU r.base i = (⟨r.base.six, r.base.hi, r.base.lo + i⟩, true) ∧ bE r ⟨r.base.six, r.base.hi, r.base.lo + i⟩ = true ∧ r.base.lo + i ≤ 18446744073709551615 := by
  have h64 : (2 : Nat) ^ 64 = 18446744073709551616 := by decide
  have h32 : (2 : Nat) ^ 32 = 4294967296 := by decide
  obtain ⟨z1, z2, z3, z4⟩ := eS hz
  obtain ⟨m, hm⟩ : ∃ m : Nat, r.bits = m := ⟨r.bits.toNat, by omega⟩
  obtain ⟨j, rfl⟩ : ∃ j : Nat, i = j := ⟨i.toNat, by omega⟩
  have hs := size_pow hz hm
  have hs2 := dB r
  obtain ⟨⟨s, hi, lo⟩, bits⟩ := r
  obtain ⟨⟨a1, a2, a3, a4⟩, _⟩ := hr
  dsimp only at *
  subst hm
  cases s with
  | true =>
    rw [bO, if_pos rfl] at z3 hs
    rw [fE rfl (by omega) ⟨a1, a2⟩ ⟨a3, a4⟩] at z4
    have g1 := congrArg Ad.hi z4; have g2 := congrArg Ad.lo z4
    dsimp only at g1 g2
    have hj : j < 2 ^ (64 - (m - 64)) := by
      by_cases h : m ≤ 64
      · rw [show 64 - (m - 64) = 64 by omega]; omega
      · rw [show 64 - (m - 64) = (128 : Int).toNat - m by omega]; omega
    obtain ⟨c1, c2⟩ := cut_add (n := 64) (m := m - 64) (x := lo.toNat) (i := j) (by omega) (by omega) (by omega) hj
    have hck : bK ⟨true, hi, lo + j⟩ = 0 := by rw [bK, if_neg]; exact fun h => nomatch h.1
    refine ⟨?_, ?_, by omega⟩
    · rw [bU, if_neg (fun h => h z1), if_neg]
      · rw [fR, if_pos rfl]
        congr 1
        simp only [hiS, loS, loC, Ad.mk.injEq, true_and]
        omega
      · rw [carA, if_pos rfl, fR, if_pos rfl]
        simp only [hiC, loC]
        have : bK ⟨true, hiS ⟨true, hi, lo⟩ j, loS ⟨true, hi, lo⟩ j⟩ = 0 := by rw [bK, if_neg]; exact fun h => nomatch h.1
        rw [this]
        omega
    · rw [bE, decide_eq_true hz, decide_eq_true hck, decide_eq_true rfl, decide_eq_true]; · rfl
      rw [fE rfl (by omega) ⟨a1, a2⟩ (by dsimp only; omega)]
      dsimp only
      rw [show (lo + (j : Int)).toNat = lo.toNat + j by omega, c2, g1]
      simp only [Ad.mk.injEq, true_and]; omega
  | false =>
    have hlo : lo < 4294967296 ∧ hi = 0 := by
      unfold bK at z1
      split at z1
      · exact absurd z1 (by decide)
      · rename_i q; have q2 : ¬ (hi ≠ 0 ∨ 4294967296 ≤ lo) := fun x => q ⟨rfl, x⟩; omega
    obtain ⟨b1, rfl⟩ := hlo
    rw [bO, if_neg (fun h => nomatch h)] at z3 hs
    rw [eN rfl (by omega) ⟨a3, b1⟩] at z4
    have g2 := congrArg Ad.lo z4
    dsimp only at g2
    have hj : j < 2 ^ (32 - m) := by rw [show 32 - m = (32 : Int).toNat - m by omega]; omega
    obtain ⟨c1, c2⟩ := cut_add (n := 32) (m := m) (x := lo.toNat) (i := j) (by omega) (by omega) (by omega) hj
    have hck : bK ⟨false, 0, lo + j⟩ = 0 := by rw [bK, if_neg]; exact fun h => h.2.elim (fun e => e rfl) (fun e => by dsimp only at e; omega)
    refine ⟨?_, ?_, by omega⟩
    · have hl : loS ⟨false, 0, lo⟩ j = lo + j := by simp only [loS]; omega
      rw [bU, if_neg (fun h => h z1), if_neg]
      · rw [fR, if_neg (fun h => nomatch h), hl]
      · rw [carA, if_neg (fun h => nomatch h), fR, if_neg (fun h => nomatch h), hl, hck]
        simp only [loC]
        omega
    · rw [bE, decide_eq_true hz, decide_eq_true hck, decide_eq_true rfl, decide_eq_true]; · rfl
      rw [eN rfl (by omega) (by dsimp only; omega)]
      dsimp only
      rw [show (lo + (j : Int)).toNat = lo.toNat + j by omega, c2]
      simp only [Ad.mk.injEq, true_and]; omega
theorem at_add {r : Rg} {i : Int} (h0 : 0 ≤ i) (hi : i < bk r) : atR r i = bU r.base i := if_neg (by omega)
def cR (r : Rg) (a : Ad) : Bool := bE r a && (decide (a.hi = r.base.hi) && decide (IntKind.u64.wrap (a.lo - r.base.lo) < bk r))
theorem idx_at {r : Rg} {i : Int} (hr : RgOk r) (hz : bY r = 0) (h0 : 0 ≤ i) (hi : i < bk r) : cR r (atR r i).1 = true := by
  obtain ⟨h1, h2, h3⟩ := at_ok hr hz h0 hi
  rw [at_add h0 hi, h1, cR, h2, decide_eq_true rfl, decide_eq_true]; · rfl
  dsimp only
  rw [show r.base.lo + i - r.base.lo = i by omega, cL (by omega) (by have := dB r; omega)]; exact hi
/-- The places that are nobody's. -/
def plcV (v : Vp) : List Ad := (cY v.rg).filter (c6 v.res)
theorem each_nodup {r : Rg} (hr : RgOk r) (hz : bY r = 0) : (cY r).Nodup := by
  rw [cY, List.Nodup, List.pairwise_map]
  refine List.Pairwise.imp_of_mem (fun {a b} ha hb hne e => ?_) List.nodup_range
  rw [List.mem_range] at ha hb
  rw [(at_ok hr hz (Int.natCast_nonneg a) (by omega)).1, (at_ok hr hz (Int.natCast_nonneg b) (by omega)).1] at e
  have := congrArg Ad.lo e
  dsimp only at this
  exact hne (by omega)
theorem each_mem {r : Rg} {a : Ad} : a ∈ cY r ↔ ∃ i : Int, 0 ≤ i ∧ i < bk r ∧ a = (atR r i).1 := by
  rw [cY, List.mem_map]
  constructor
  · rintro ⟨k, hk, rfl⟩
    rw [List.mem_range] at hk
    exact ⟨k, Int.natCast_nonneg k, by omega, by rw [at_add (by omega) (by omega)]⟩
  · rintro ⟨i, h0, hi, rfl⟩
    exact ⟨i.toNat, List.mem_range.2 (by omega), by rw [at_add h0 hi, Int.toNat_of_nonneg h0]⟩
structure HInv (v : Vp) (hm : Hm) : Prop where
  inv : PInv hm
  pl : ∀ p ∈ hm, p.2.ad ∈ plcV v
theorem HInv.nil {v : Vp} : HInv v [] := ⟨⟨.nil, .nil, nofun⟩, nofun⟩
theorem HInv.filter {v : Vp} {hm : Hm} (h : HInv v hm) (P : aX × Hd → Bool) : HInv v (hm.filter P) := ⟨h.inv.filter P, fun p hp => h.pl p (List.mem_filter.1 hp).1⟩
theorem HInv.give {v : Vp} {hm : Hm} {n : aX} (h : HInv v hm) (hn : bz n = true) : HInv v (bI v hm (ci hm) n).2.1 := by
  refine ⟨(give_inv h.inv n).2.1, fun p hp => ?_⟩
  rcases give_shape (v := v) (hm := hm) hn with ⟨g1, _⟩ | ⟨i, h1, h2, h3, _, _, g1⟩
  · rw [g1] at hp; exact h.pl p hp
  · rw [g1, List.mem_append] at hp
    rcases hp with hp | hp
    · exact h.pl p hp
    · rw [List.mem_singleton.1 hp]
      simp only [du, Bool.and_eq_true] at h3
      exact List.mem_filter.2 ⟨each_mem.2 ⟨i, h1, h2, rfl⟩, h3.2⟩
theorem HInv.fold {v : Vp} : ∀ {hosts : List aX} {s : Hm × List aX}, (∀ n ∈ hosts, bz n = true) → HInv v s.1 → HInv v (hosts.foldl (keepF v) s).1
  | [], _, _, h => h
  | n :: t, s, hh, h => HInv.fold (hosts := t) (s := keepF v s n) (fun x hx => hh x (.tail _ hx)) (h.give (hh n (.head _)))
theorem HInv.keep {v : Vp} {hm : Hm} {hosts : List aX} (h : HInv v hm) : HInv v (keepV v hm hosts).2 := by
  by_cases hk : hosts.all bz = false
  · rw [show keepV v hm hosts = (([], 2), hm) from if_pos hk]; exact h
  · rw [show keepV v hm hosts = (((keepG v (stayH hm hosts) hosts).2, 0), (keepG v (stayH hm hosts) hosts).1) from if_neg hk]
    exact HInv.fold (s := (stayH hm hosts, [])) (all_ok14 hk) (h.filter _)
theorem HInv.len {v : Vp} {hm : Hm} (h : HInv v hm) : hm.length ≤ bT v.rg v.res := by
  have := nd_len h.inv.ads (m := plcV v) fun a ha => by
    obtain ⟨p, hp, rfl⟩ := List.mem_map.1 ha
    exact h.pl p hp
  rw [List.length_map] at this; exact this
/-- Where giving fails, all that is free is given. -/
theorem HInv.full {v : Vp} {hm : Hm} (h : HInv v hm) (hr : RgOk v.rg) (hz : bY v.rg = 0) (hroom : v.room = bT v.rg v.res) (hf : FailV v hm) : hm.length = bT v.rg v.res := by
  rcases hf with hf | hf
  · omega
  · refine Nat.le_antisymm h.len ?_
    have := nd_len (l := plcV v) (m := hm.map fun p => p.2.ad) ((each_nodup hr hz).sublist List.filter_sublist) fun a ha => by
      obtain ⟨h1, h2⟩ := List.mem_filter.1 ha
      obtain ⟨i, i0, i1, rfl⟩ := each_mem.1 h1
      have h3 := hf i i0 i1
      rw [du, h2, Bool.and_true, Bool.not_eq_false', lkp_mem, fP] at h3
      exact h3
    rw [List.length_map] at this; exact this
theorem not_fail {v : Vp} {hm : Hm} (h : HInv v hm) (hr : RgOk v.rg) (hz : bY v.rg = 0) (hroom : v.room = bT v.rg v.res) (hl : hm.length < bT v.rg v.res) : ¬ FailV v hm := fun hf => by
  have := h.full hr hz hroom hf; omega

theorem hostOk_iff {n : aX} : bz n = true ↔ n ≠ [] ∧ bg n = 0 := by simp [bz]
theorem hostOk_len {n : aX} (h : bz n = true) : n.length ≤ 254 := (nameCk_zero.1 (hostOk_iff.1 h).2).1
theorem same_ok {a b : aX} (ha : bz a = true) (hb : bz b = true) : same2 a b = true ↔ aY a = aY b := by simp [same2, (hostOk_iff.1 ha).2, (hostOk_iff.1 hb).2]
theorem ofV_ok {hm : Hm} {n : aX} (h : bz n = true) : ofV hm n = (((cK hm (aY n)).getD d2).ad, (cK hm (aY n)).isSome) := if_neg (by rw [h]; decide)
section
variable {v : Vp} {hm hm2 : Hm} {hosts ls : List aX} {er : Int} (hK : keepV v hm hosts = ((ls, er), hm2))
include hK
end
/-- What is held may be. -/
def HeldG (rg : Rg) (res : List Rg) (hs : List Hd) : Prop := ∀ i, i < hs.length → (cR rg (hs.getD i d2).ad = true ∧ fg (hs.getD i d2).ad ∧ (∀ x ∈ res, bE x (hs.getD i d2).ad = false)) ∧ (hs.getD i d2).host.length ≤ 254 ∧ ∀ k, k < i → (hs.getD k d2).ad ≠ (hs.getD i d2).ad ∧ same2 (hs.getD k d2).host (hs.getD i d2).host = false
theorem nd_getD {α β : Type} {f : α → β} {l : List α} (h : (l.map f).Nodup) {i k : Nat} (hi : i < l.length) (hk : k < i) (d : α) : f (l.getD k d) ≠ f (l.getD i d) := by
  rw [List.getD_eq_getElem?_getD, List.getD_eq_getElem?_getD, List.getElem?_eq_getElem hi, List.getElem?_eq_getElem (by omega)]
  rw [List.Nodup, List.pairwise_map, List.pairwise_iff_getElem] at h
  exact h k i (by omega) hi hk
theorem at_adok {r : Rg} {i : Int} (hr : RgOk r) (hz : bY r = 0) (h0 : 0 ≤ i) (hi : i < bk r) : fg (atR r i).1 := by
  obtain ⟨h1, h2, h3⟩ := at_ok hr hz h0 hi
  rw [at_add h0 hi, h1]
  obtain ⟨a1, a2, a3, a4⟩ := hr.1
  exact ⟨a1, a2, by show 0 ≤ r.base.lo + i; omega, h3⟩
theorem held_g {v : Vp} {hm : Hm} (h : HInv v hm) (hr : RgOk v.rg) (hz : bY v.rg = 0) {o : List Hd} (ho : o.Perm (hm.map (·.2))) : HeldG v.rg v.res o := by
  have hads : (o.map fun x => x.ad).Nodup := (ho.map fun x => x.ad).nodup_iff.2 (by rw [List.map_map]; exact h.inv.ads)
  have hfo : (o.map fun x => aY x.host).Nodup := (ho.map fun x => aY x.host).nodup_iff.2 (by
    rw [List.map_map]
    have e : hm.map ((fun x : Hd => aY x.host) ∘ fun p : aX × Hd => p.2) = hm.map fun p => p.1 := List.map_congr_left fun p hp => (h.inv.fold p hp).1.symm
    rw [e]; exact h.inv.keys)
  have hall : ∀ x ∈ o, bz x.host = true ∧ cR v.rg x.ad = true ∧ fg x.ad ∧ ∀ y ∈ v.res, bE y x.ad = false := fun x hx => by
    obtain ⟨p, hp, rfl⟩ := List.mem_map.1 (ho.mem_iff.1 hx)
    obtain ⟨q1, q2⟩ := List.mem_filter.1 (h.pl p hp)
    obtain ⟨i, i0, i1, e⟩ := each_mem.1 q1
    rw [e] at q2 ⊢
    refine ⟨(h.inv.fold p hp).2, idx_at hr hz i0 i1, at_adok hr hz i0 i1, fun y hy => ?_⟩
    simp only [c6, Bool.not_eq_true', List.any_eq_false] at q2
    simpa using q2 y hy
  intro i hi
  obtain ⟨g1, g2, g3, g4⟩ := hall _ (cF (d := d2) hi)
  refine ⟨⟨g2, g3, g4⟩, hostOk_len g1, fun k hk => ⟨nd_getD hads hi hk d2, ?_⟩⟩
  rw [Bool.eq_false_iff]
  exact fun e => nd_getD hfo hi hk d2 ((same_ok (hall _ (cF (d := d2) (by omega))).1 g1).1 e)

end Go.Proofs.YtnpdgmoeoidppaaGreat

/- law 14: two pools of one kind, what they keep -/
namespace Go.Proofs.YtnpdgmoeoidppaaGreat
open Go.RowKit Go.Shelf
set_option linter.unusedVariables false
set_option linter.unusedSimpArgs false

instance : DecidableEq Hd := fun a b => if h : a.host = b.host ∧ a.ad = b.ad then .isTrue (by cases a; cases b; cases h.1; cases h.2; rfl) else .isFalse (fun e => h (by rw [e]; exact ⟨rfl, rfl⟩))
def vR (rg : Rg) (res : List Rg) : Vp := ⟨rg, res, none, 0, bT rg res, 0, 0, 0⟩
theorem cks_head {rg : Rg} {res : List Rg} (h : fh (rg :: res) = 0) : bY rg = 0 := by
  refine Decidable.not_not.1 fun e => ?_
  rw [fh, if_pos e] at h; exact e h
theorem light_nil {rg : Rg} {nr : Nat} (h : bp rg nr [] = true) : nr ≤ 6 ∧ bk rg ≤ 128 := by
  simp only [bp, Bool.and_eq_true, decide_eq_true_eq] at h; exact h.2.2
theorem eG {rg : Rg} {res : List Rg} {hm : Hm} (h : HInv (vR rg res) hm) : hm.length ≤ 65536 := Nat.le_trans h.len (free_le rg res)
theorem fD {o : List Hd} {hm : Hm} (h : o.Perm (hm.map (·.2))) : o.length = hm.length := by rw [h.length_eq, List.length_map]

end Go.Proofs.YtnpdgmoeoidppaaGreat

/- ranges: the document places, who is free -/
namespace Go.Proofs.YtnpdgmoeoidppaaGreat
open Go.RowKit Go.Shelf
set_option linter.unusedVariables false
set_option linter.unusedSimpArgs false

theorem ent_162 : Enters Tryz.prog 162 := enters_of Tryz.func162 (by kernel_rfl) rfl
theorem ent_93 : Enters Tryz.prog 93 := enters_of Tryz.func93 (by kernel_rfl) rfl
theorem ent_94 : Enters Tryz.prog 94 := enters_of Tryz.func94 (by kernel_rfl) rfl

theorem bX {x : Cx} {C : World → Prop} {l : Fr} {L S : List Ch} {Q : Exit → Act → World → Prop} {ops : Array Oper} {fuel m : Nat} {listed : Array Bool} {i d : Nat} {op : Op} {ty : TypeId} {pos : String} {af : Array Edge} {gd : Option (Nat × Bool)} {listed' : Array Bool} (hi : ops[i]? = some ⟨some d, op, ty, pos, af, gd⟩) (hw : ∀ a, Kn x.N x.ds l a → Region.wanted ⟨some d, op, ty, pos, af, gd⟩ (yielded ops a.tmps) = false)
    (hC : ∀ w, Hp x.ok0 x.w0 L S w → C w) (hN : Nat.blt d x.N = true) (hpk : PkOk Q)
    (hs : (Region.noSelect ops && Region.free .any ops listed i && (Region.ready .any ops listed).contains i && gg ops m i && Nat.blt i m && di m listed && gx ops listed) = true) (hl : listed.setIfInBounds i true = listed')
    (k : WU x C m ops fuel listed' ((d, undef) :: l) L S Q) : WU x C m ops (fuel + 1) listed l L S Q := fun a w ha hh => by
  simp only [Bool.and_eq_true] at hs
  obtain ⟨⟨⟨⟨⟨⟨h1, h2⟩, h3⟩, h4⟩, h5⟩, h6⟩, h7⟩ := hs
  exact gI hi (Region.noSelect_spec h1) (fun c a w h => hpk c a w _ _ h) h4 (Nat.le_of_ble_eq_true h5) fuel listed a w h6 (closed_of h7) (Region.free_spec hi h2) (by simpa using h3) (.inr ⟨hw a ha, rfl⟩) (hC w hh) (by rw [hl]; exact k _ w (ha.put (Nat.le_of_ble_eq_true hN) undef) hh)

theorem at_four {r : Rg} {i : Int} (hr : RgOk r) (hz : bY r = 0) (h0 : 0 ≤ i) (hi : i < bk r) (h6 : r.base.six = false) : r.base.lo + i < 4294967296 := by
  obtain ⟨_, h2, _⟩ := at_ok hr hz h0 hi
  simp only [bE, Bool.and_eq_true, decide_eq_true_eq] at h2
  have h3 := h2.2.1
  unfold bK at h3
  split at h3
  · exact absurd h3 (by decide)
  · rename_i q; have q2 : ¬ (r.base.hi ≠ 0 ∨ 4294967296 ≤ r.base.lo + i) := fun x => q ⟨h6, x⟩; omega
theorem size_pos {r : Rg} {i : Int} (h0 : 0 ≤ i) (hi : i < bk r) : bY r = 0 := by
  refine Decidable.not_not.1 fun h => ?_
  rw [bk, if_pos h] at hi; omega
theorem un_end {res : List Rg} {a : Ad} {k : Nat} {fr : Bool} (hI : k ≤ res.length ∧ fr = !((res.take k).any fun x => bE x a)) (h : ¬ (k : Int) < res.length ∨ fr = false) : c6 res a = fr := by
  obtain ⟨h1, h2⟩ := hI
  rw [c6, h2]
  rcases h with h | h
  · rw [List.take_of_length_le (by omega)]
  · rw [h2, Bool.not_eq_false'] at h
    rw [h]
    obtain ⟨x, hx, hx2⟩ := List.any_eq_true.1 h
    rw [List.any_eq_true.2 ⟨x, List.mem_of_mem_take hx, hx2⟩]
theorem un_step {res : List Rg} {a : Ad} {k : Nat} {fr : Bool} (hk : k < res.length) (h : fr = !((res.take k).any fun x => bE x a)) (hf : fr = true) : (!bE (res.getD k rg0) a) = !((res.take (k + 1)).any fun x => bE x a) := by
  rw [c4 res rg0 k hk, List.any_append]
  rw [h, Bool.not_eq_true'] at hf
  rw [hf]; simp
theorem fO {rg : Rg} {res : List Rg} {i : Nat} (hi : i < bk rg) : (((cY rg).take (i + 1)).filter (c6 res)).length = (((cY rg).take i).filter (c6 res)).length + if c6 res (bU rg.base i).1 = true then 1 else 0 := by
  rw [c4 (cY rg) ad0 i (by rw [dq]; exact hi), ga hi, free_snoc]

theorem c_ref04_Add (a : Ad) (d : Int) (hc : bK a = 0) (h0 : 0 ≤ a.lo ∧ 0 ≤ d) (h1 : a.lo + d ≤ 18446744073709551615) (h2 : a.six = false → a.lo + d < 4294967296) : RC Tryz.prog 162 #[.agg (dC a).toArray, .int .u64 d] [] (α := Unit) (fun _ => .tuple #[.agg (dC ⟨a.six, a.hi, a.lo + d⟩).toArray, .bool true]) (fun _ => []) := by
 refine bh (args := [.agg (dC a).toArray, .int .u64 d]) 44 Tryz.func162 rfl rfl rfl (fun w0 => ?_)
 refine ao ?_
 refine ab ?_
 refine bx rfl rfl rfl (fun b1 => ?_)
 refine bj aO rfl rfl (fun b2 => ?_)
 refine ap (ai rfl) rfl rfl ?_
 refine ae ?_
 refine aj ?_
 refine ao ?_
 refine ao ?_
 refine ab ?_
 refine ap (aI 1 aO rfl rfl rfl rfl) rfl rfl ?_
 refine aR rfl ent_79 (ez a h0.1) rfl ?_
 refine ap (cc rfl rfl) rfl rfl ?_
 refine fT (t := 10) rfl (fun h => h hc) ?_
 refine ae ?_
 refine aj ?_
 refine aw rfl ?_
 refine aL ?_
 refine aj ?_
 refine ao ?_
 refine ab ?_
 refine ap (aI 1 aO rfl rfl rfl rfl) rfl rfl ?_
 refine bj aO rfl rfl (fun b3 => ?_)
 refine aS aO rfl rfl rfl .z rfl rfl rfl rfl ?_
 refine ae ?_
 refine aj ?_
 refine ao ?_
 refine ab ?_
 refine ap (aD ce rfl) rfl rfl ?_
 refine ap (aM 2 co rfl rfl rfl) rfl rfl ?_
 refine ap (ak rfl) rfl rfl ?_
 refine ap (y_add rfl rfl) rfl rfl ?_
 refine bW (t := 16) (.int .u64 (a.lo + d)) rfl (by rw [cL (by omega) (by omega)]) ?_
 refine ap (aD ce rfl) rfl rfl ?_
 refine aS co rfl rfl rfl .z rfl rfl rfl rfl ?_
 refine ae ?_
 refine aj ?_
 refine ao ?_
 refine ab ?_
 refine ap (aD ce rfl) rfl rfl ?_
 refine ap (aM 0 co rfl rfl rfl) rfl rfl ?_
 refine ap (aD ce rfl) rfl rfl ?_
 refine ap (aM 2 co rfl rfl rfl) rfl rfl ?_
 refine ap (bQ rfl rfl) rfl rfl ?_
 refine fT (t := 22) rfl (by omega) ?_
 refine ap (ai rfl) rfl rfl ?_
 refine ae ?_
 refine aj ?_
 refine ao ?_
 refine ao ?_
 refine ab ?_
 refine ap (aD cT rfl) rfl rfl ?_
 refine ap (aM 2 gy rfl rfl rfl) rfl rfl ?_
 refine bl (t := 24) rfl (fun h6_1 => ?_) (fun h6_1 => ?_)
 refine ap (bJ rfl) rfl rfl ?_
 refine ae ?_
 refine aj ?_
 refine aw rfl ?_
 refine aL ?_
 refine aj ?_
 refine ao ?_
 refine ao ?_
 refine ab ?_
 refine ap (ak rfl) rfl rfl ?_
 refine ae ?_
 refine aj ?_
 refine aw rfl ?_
 refine aL ?_
 refine aj ?_
 refine ao ?_
 refine ab ?_
 refine ap (aI 0 aO rfl rfl rfl rfl) rfl rfl ?_
 refine aS aO rfl rfl rfl (.s (.z)) rfl rfl rfl rfl ?_
 refine ap (ai rfl) rfl rfl ?_
 refine ae ?_
 refine aj ?_
 refine aH ?_
 refine dp (rs := [.cell 4 29, .tmp 5]) rfl (bq 1 aO rfl rfl rfl rfl (cE rfl bM)) rfl (fun w hw => ?_)
 exact ⟨(), rfl, hw.base, (hw.weak (List.nil_sublist _) (fun s hs => hs)).toNews⟩
 refine ap (bJ rfl) rfl rfl ?_
 refine ae ?_
 refine aj ?_
 refine ay rfl ?_
 refine ao ?_
 refine ao ?_
 refine ab ?_
 refine ap (ak rfl) rfl rfl ?_
 refine ap (ak rfl) rfl rfl ?_
 refine aA rfl rfl ?_
 refine ap (aD ce rfl) rfl rfl ?_
 refine aA rfl rfl ?_
 refine ap (aM 0 co rfl rfl rfl) rfl rfl ?_
 refine aA rfl rfl ?_
 refine ap (fu rfl rfl) rfl rfl ?_
 refine fT (t := 30) rfl (by have := h2 h6_1; omega) ?_
 refine ap (aQ rfl rfl) rfl rfl ?_
 refine ae ?_
 refine aj ?_
 refine aw rfl ?_
 refine aL ?_
 refine aj ?_
 refine ao ?_
 refine ab ?_
 refine ap (aI 0 aO rfl rfl rfl rfl) rfl rfl ?_
 refine aS aO rfl rfl rfl (.s (.z)) rfl rfl rfl rfl ?_
 refine ap (ai rfl) rfl rfl ?_
 refine ae ?_
 refine aj ?_
 refine aH ?_
 refine az ?_
 refine dp (rs := [.cell 4 29, .tmp 5]) rfl (bq 1 aO rfl rfl rfl rfl (cE rfl bM)) rfl (fun w hw => ?_)
 exact ⟨(), rfl, hw.base, (hw.weak (List.nil_sublist _) (fun s hs => hs)).toNews⟩

theorem c_ref05At (r : Rg) (i : Int) (hr : RgOk r) (h0 : 0 ≤ i) (hi : i < bk r) : RC Tryz.prog 93 #[.agg (dJ r).toArray, .int .i64 i] [] (α := Unit) (fun _ => .tuple #[.agg (dC (bU r.base i).1).toArray, .bool true]) (fun _ => []) := by
 refine bh (args := [.agg (dJ r).toArray, .int .i64 i]) 22 Tryz.func93 rfl rfl rfl (fun w0 => ?_)
 have hz := size_pos h0 hi
 have hat := at_ok hr hz h0 hi
 have hsz := dB r
 have hck : bK r.base = 0 := (eS hz).1
 refine ao ?_
 refine ab ?_
 refine bx rfl rfl rfl (fun b1 => ?_)
 refine bj aO rfl rfl (fun b2 => ?_)
 refine ap (ai rfl) rfl rfl ?_
 refine ae ?_
 refine aj ?_
 refine ao ?_
 refine ao ?_
 refine ab ?_
 refine ap (ak rfl) rfl rfl ?_
 refine ap (bQ rfl rfl) rfl rfl ?_
 refine fT (t := 7) rfl (by omega) ?_
 refine ap (ak rfl) rfl rfl ?_
 refine aA rfl rfl ?_
 refine ap (ak rfl) rfl rfl ?_
 refine aA rfl rfl ?_
 refine ap (aI 1 bR rfl rfl rfl rfl) rfl rfl ?_
 refine aA rfl rfl ?_
 refine aR rfl ent_92 (eo r hr.1) rfl ?_
 refine aA rfl rfl ?_
 refine ap (fu rfl rfl) rfl rfl ?_
 refine fT (t := 12) rfl (by omega) ?_
 refine ap (aQ rfl rfl) rfl rfl ?_
 refine ae ?_
 refine aj ?_
 refine aw rfl ?_
 refine aL ?_
 refine aj ?_
 refine ao ?_
 refine ab ?_
 refine ap (aD cg rfl) rfl rfl ?_
 refine ap (aI 1 aO rfl rfl rfl rfl) rfl rfl ?_
 refine ap (ak rfl) rfl rfl ?_
 refine ap (cS Tryz.underlying3 Tryz.underlying27 rfl (cL (by omega) (by omega))) rfl rfl ?_
 refine bu rfl ent_162 rfl (c_ref04_Add r.base i hck ⟨hr.1.2.2.1, h0⟩ hat.2.2 (at_four hr hz h0 hi)) (fun w hw => bf) ?_
 refine ap (aJ rfl rfl) rfl rfl ?_
 refine ap (aJ rfl rfl) rfl rfl ?_
 refine aS aO rfl rfl rfl .z rfl rfl rfl rfl ?_
 refine ap (ai rfl) rfl rfl ?_
 refine ae ?_
 refine aj ?_
 refine aH ?_
 refine dp (rs := [.cell 4 29, .tmp 5]) rfl (bq 0 aO rfl rfl rfl rfl (cE rfl bM)) rfl (fun w hw => ?_)
 exact ⟨(), by rw [hat.1]; rfl, hw.base, (hw.weak (List.nil_sublist _) (fun s hs => hs)).toNews⟩

set_option maxRecDepth 100000 in
theorem c_ref05Free (rg : Rg) (res : List Rg) (A : Option Addr) (c : Nat) (hr : RgOk rg) (hrs : ∀ x ∈ res, RgOk x) (hl : res.length ≤ 4398046510976) : RC Tryz.prog 33 #[.agg (dJ rg).toArray, .slice A res.length c] [Ch.rd A 4 dJ res] (α := Unit) (fun _ => .int .i64 (bT rg res)) (fun _ => []) := by
 refine bh (args := [.agg (dJ rg).toArray, .slice A res.length c]) 43 Tryz.func33 rfl rfl rfl (fun w0 => ?_)
 refine ao ?_
 refine ab ?_
 refine bx rfl rfl rfl (fun b1 => ?_)
 refine ap (ai rfl) rfl rfl ?_
 refine ae ?_
 refine aj ?_
 refine ao ?_
 refine ab ?_
 refine ap (ai rfl) rfl rfl ?_
 refine ae ?_
 refine aj ?_
 refine ao ?_
 refine ao ?_
 refine ab ?_
 refine ap (ai rfl) rfl rfl ?_
 refine ae ?_
 refine aj ?_
 refine aT ?_
 refine bZ (σ := Nat) [5, 6, 7, 8, 9, 10, 11, 12, 13, 14, 15, 16, 17, 18, 19, 20, 21, 22, 23, 24, 25, 26, 27, 28, 29, 30, 31, 32, 33, 34, 35, 36, 37, 38, 39, 40, 41] (fun i => i ≤ bk rg) (fun i => bk rg - i) (fun i => [(6, .int .i64 i), (5, .int .i64 (((((cY rg).take i).filter (c6 res)).length : Nat) : Int))]) (0) ?_ ⟨rfl, rfl, trivial⟩ (fun i hI => ?_)
 exact Nat.zero_le _
 refine ao ?_
 refine ao ?_
 refine ab ?_
 refine ap (ak rfl) rfl rfl ?_
 refine ap (aI 0 bR rfl rfl rfl rfl) rfl rfl ?_
 refine aR rfl ent_92 (eo rg hr.1) rfl ?_
 refine ap (bQ rfl rfl) rfl rfl ?_
 refine aG (t := 14) rfl (fun h3_3 => ?_) (fun h3_3 => ?_)
 have hi : i < bk rg := by omega
 have hsz := dB rg
 have hz := size_pos (r := rg) (i := i) (by omega) (by omega)
 have hao : fg (bU rg.base i).1 := by have := at_adok (i := i) hr hz (by omega) (by omega); rwa [at_add (by omega) (by omega)] at this
 have hIo := hI
 have hfl : (((cY rg).take i).filter (c6 res)).length ≤ i := Nat.le_trans (List.length_filter_le _ _) (by rw [List.length_take]; omega)
 refine ae ?_
 refine aj ?_
 refine ay rfl ?_
 refine aL ?_
 refine aj ?_
 refine ao ?_
 refine aT ?_
 refine ao ?_
 refine ab ?_
 refine ap (aI 0 bR rfl rfl rfl rfl) rfl rfl ?_
 refine ap (ak rfl) rfl rfl ?_
 refine bu rfl ent_93 rfl (c_ref05At rg i hr (by omega) (by omega)) (fun w hw => bf) ?_
 refine ap (ak rfl) rfl rfl ?_
 refine ap (aJ rfl rfl) rfl rfl ?_
 refine ap (aJ rfl rfl) rfl rfl ?_
 refine bj aO rfl rfl (fun b2 => ?_)
 refine aS aO rfl rfl rfl .z rfl rfl rfl rfl ?_
 refine ap (ai rfl) rfl rfl ?_
 refine ae ?_
 refine aj ?_
 refine ao ?_
 refine ab ?_
 refine ap (ai rfl) rfl rfl ?_
 refine ae ?_
 refine aj ?_
 refine ao ?_
 refine ao ?_
 refine ab ?_
 refine ap (ai rfl) rfl rfl ?_
 refine ae ?_
 refine aj ?_
 refine aT ?_
 refine bZ (σ := Nat × Bool) [9, 10, 23, 24, 25, 26, 27, 28, 29, 30, 31, 32, 33, 34, 35, 36, 37, 38] (fun z => z.1 ≤ res.length ∧ z.2 = !((res.take z.1).any fun x => bE x (bU rg.base i).1)) (fun z => res.length - z.1) (fun z => [(10, .int .i64 z.1), (9, .bool z.2)]) ((0, true)) ?_ ⟨rfl, rfl, trivial⟩ (fun z hI => ?_)
 exact ⟨Nat.zero_le _, rfl⟩
 obtain ⟨k, fr⟩ := z
 dsimp only at hI ⊢
 refine ao ?_
 refine ao ?_
 refine ab ?_
 refine ap (ak rfl) rfl rfl ?_
 refine ap (ak rfl) rfl rfl ?_
 refine ap (ck Tryz.underlying65 rfl) rfl rfl ?_
 refine ap (bQ rfl rfl) rfl rfl ?_
 refine aG (t := 26) rfl (fun h8_3 => ?_) (fun h8_3 => ?_)
 refine ap (ak rfl) rfl rfl ?_
 refine aA rfl rfl ?_
 refine ap (ak rfl) rfl rfl ?_
 refine bl (t := 28) rfl (fun h8_5 => ?_) (fun h8_5 => ?_)
 have hk : k < res.length := by omega
 refine ap (aP rfl rfl) rfl rfl ?_
 refine ae ?_
 refine aj ?_
 refine ay rfl ?_
 refine aL ?_
 refine aj ?_
 refine ao ?_
 refine aT ?_
 refine dN 8 rfl mixed ?_
 refine aC (i := 0) rfl ah (ak rfl) au au rfl (ar (aa (aF (ar (aa (ar (aa (aF (ar (aa aq)))))))))) (by kernel_rfl) rfl ?_
 refine aC (i := 1) rfl ah (ak rfl) au au rfl (ar (aa (aF (ar (aa (ar (aa (aF (ar (aa aq)))))))))) (by kernel_rfl) rfl ?_
 refine aC (i := 2) rfl ah (cp  Tryz.underlying65 bR rfl rfl (cI 0 rfl) rfl (by omega)) au au rfl (ar (aa (aF (ar (aa (ar (aa (aF (ar (aa aq)))))))))) (by kernel_rfl) rfl ?_
 refine aC (i := 3) rfl ah (gC fC rg0 bR rfl (cI 0 rfl) (by omega) rfl rfl rfl) au au rfl (ar (aa (aF (ar (aa (ar (aa (aF (ar (aa aq)))))))))) (by kernel_rfl) rfl ?_
 refine aC (i := 4) rfl ah (aI 0 aO rfl rfl rfl rfl) au au rfl (ar (aa (aF (ar (aa (ar (aa (aF (ar (aa aq)))))))))) (by kernel_rfl) rfl ?_
 refine cr (i := 5) rfl rfl rfl (a8 rfl ent_94) (by kernel_rfl) rfl ?_
 refine aR rfl ent_94 (f8 (res.getD k rg0) (bU rg.base i).1 (hrs _ (cF hk)).1 hao) rfl ?_
 refine ae ?_
 refine br au ?_
 refine wu_splitb (t := 37) rfl (fun h10_5 => ?_) (fun h10_5 => ?_)
 refine aC (i := 6) rfl ah (bJ rfl) au au rfl (ar (aa (aF (ar (aa (ar (aa (aF (ar (aa aq)))))))))) (by kernel_rfl) rfl ?_
 refine aC (i := 7) rfl ah (ai rfl) au au rfl (ar (aa (aF (ar (aa (ar (aa (aF (ar (aa aq)))))))))) (by kernel_rfl) rfl ?_
 refine cu (by kernel_rfl) ?_
 refine bw ?_
 refine aj ?_
 refine ab ?_
 refine ap (ak rfl) rfl rfl ?_
 refine ap (bi rfl rfl (by omega) (by omega)) rfl rfl ?_
 refine ap (ai rfl) rfl rfl ?_
 refine ae ?_
 refine bA ((k + 1, !bE (res.getD k rg0) (bU rg.base i).1)) ?_ ?_ ⟨rfl, lk rfl (congrArg (fun b => Value.bool (!b)) h10_5.symm), trivial⟩ (by repeat (first | exact trivial | refine ⟨rfl, ?_⟩)) au
 exact ⟨by show k + 1 ≤ _; omega, un_step hk hI.2 h8_5⟩
 show res.length - (k + 1) < res.length - k
 omega
 refine aC (i := 6) rfl ah (bJ rfl) au au rfl (ar (aa (aF (ar (aa (ar (aa (aF (ar (aa aq)))))))))) (by kernel_rfl) rfl ?_
 refine aC (i := 7) rfl ah (ai rfl) au au rfl (ar (aa (aF (ar (aa (ar (aa (aF (ar (aa aq)))))))))) (by kernel_rfl) rfl ?_
 refine cu (by kernel_rfl) ?_
 refine bw ?_
 refine aj ?_
 refine ab ?_
 refine ap (ak rfl) rfl rfl ?_
 refine ap (bi rfl rfl (by omega) (by omega)) rfl rfl ?_
 refine ap (ai rfl) rfl rfl ?_
 refine ae ?_
 refine bA ((k + 1, !bE (res.getD k rg0) (bU rg.base i).1)) ?_ ?_ ⟨rfl, lk rfl (congrArg (fun b => Value.bool (!b)) h10_5.symm), trivial⟩ (by repeat (first | exact trivial | refine ⟨rfl, ?_⟩)) au
 exact ⟨by show k + 1 ≤ _; omega, un_step hk hI.2 h8_5⟩
 show res.length - (k + 1) < res.length - k
 omega
 refine ap (aP rfl rfl) rfl rfl ?_
 refine ae ?_
 refine aj ?_
 refine aw rfl ?_
 refine bG ?_
 refine a7 ?_
 refine aZ ?_
 refine bc ?_
 refine aj ?_
 refine ao ?_
 have hun := un_end hI (by first | exact .inl h8_3 | exact .inr h8_5)
 refine ab ?_
 refine ap (ak rfl) rfl rfl ?_
 refine bl (t := 39) rfl (fun h11_0 => ?_) (fun h11_0 => ?_)
 refine ae ?_
 refine aj ?_
 refine ay rfl ?_
 refine ab ?_
 refine ap (ak rfl) rfl rfl ?_
 refine ap (bi rfl rfl (by omega) (by omega)) rfl rfl ?_
 refine ap (ai rfl) rfl rfl ?_
 refine ae ?_
 refine bw ?_
 refine aj ?_
 refine ab ?_
 refine ap (ak rfl) rfl rfl ?_
 refine ap (bi rfl rfl (by omega) (by omega)) rfl rfl ?_
 refine ap (ai rfl) rfl rfl ?_
 refine ae ?_
 refine bA (i + 1) ?_ ?_ ⟨rfl, lk rfl (congrArg (Value.int .i64) (by rw [fO hi, hun, h11_0] <;> rfl)), trivial⟩ (by repeat (first | exact trivial | refine ⟨rfl, ?_⟩)) (bP 1)
 show i + 1 ≤ _
 omega
 omega
 refine ae ?_
 refine aj ?_
 refine aw rfl ?_
 refine aL ?_
 refine bw ?_
 refine aj ?_
 refine ab ?_
 refine ap (ak rfl) rfl rfl ?_
 refine ap (bi rfl rfl (by omega) (by omega)) rfl rfl ?_
 refine ap (ai rfl) rfl rfl ?_
 refine ae ?_
 refine bA (i + 1) ?_ ?_ ⟨rfl, lk rfl (congrArg (Value.int .i64) (by rw [fO hi, hun, h11_0] <;> rfl)), trivial⟩ (by repeat (first | exact trivial | refine ⟨rfl, ?_⟩)) (bP 1)
 show i + 1 ≤ _
 omega
 omega
 refine ap (ak rfl) rfl rfl ?_
 refine aK rfl rfl rfl rfl ?_
 refine ap (aQ rfl rfl) rfl rfl ?_
 refine ae ?_
 refine aj ?_
 refine aw rfl ?_
 refine bG ?_
 refine a7 ?_
 refine aZ ?_
 refine bc ?_
 refine aj ?_
 refine ao ?_
 have hun := un_end hI (by first | exact .inl h8_3 | exact .inr h8_5)
 refine ab ?_
 refine ap (ak rfl) rfl rfl ?_
 refine bl (t := 39) rfl (fun h11_0 => ?_) (fun h11_0 => ?_)
 refine ae ?_
 refine aj ?_
 refine ay rfl ?_
 refine ab ?_
 refine ap (ak rfl) rfl rfl ?_
 refine ap (bi rfl rfl (by omega) (by omega)) rfl rfl ?_
 refine ap (ai rfl) rfl rfl ?_
 refine ae ?_
 refine bw ?_
 refine aj ?_
 refine ab ?_
 refine ap (ak rfl) rfl rfl ?_
 refine ap (bi rfl rfl (by omega) (by omega)) rfl rfl ?_
 refine ap (ai rfl) rfl rfl ?_
 refine ae ?_
 refine bA (i + 1) ?_ ?_ ⟨rfl, lk rfl (congrArg (Value.int .i64) (by rw [fO hi, hun, h11_0] <;> rfl)), trivial⟩ (by repeat (first | exact trivial | refine ⟨rfl, ?_⟩)) (bP 1)
 show i + 1 ≤ _
 omega
 omega
 refine ae ?_
 refine aj ?_
 refine aw rfl ?_
 refine aL ?_
 refine bw ?_
 refine aj ?_
 refine ab ?_
 refine ap (ak rfl) rfl rfl ?_
 refine ap (bi rfl rfl (by omega) (by omega)) rfl rfl ?_
 refine ap (ai rfl) rfl rfl ?_
 refine ae ?_
 refine bA (i + 1) ?_ ?_ ⟨rfl, lk rfl (congrArg (Value.int .i64) (by rw [fO hi, hun, h11_0] <;> rfl)), trivial⟩ (by repeat (first | exact trivial | refine ⟨rfl, ?_⟩)) (bP 1)
 show i + 1 ≤ _
 omega
 omega
 refine ae ?_
 refine aj ?_
 refine aw rfl ?_
 refine bG ?_
 refine a7 ?_
 refine aZ ?_
 refine bc ?_
 refine aj ?_
 refine ao ?_
 refine ab ?_
 refine ap (ak rfl) rfl rfl ?_
 refine ap (ai rfl) rfl rfl ?_
 refine ae ?_
 refine aj ?_
 refine aH ?_
 refine aN (ts := [4]) rfl rfl rfl (fun w hw => ?_)
 have hE : bT rg res = (((cY rg).take i).filter (c6 res)).length := by rw [List.take_of_length_le (by rw [dq]; omega)]; rfl
 exact ⟨(), by rw [hE]; rfl, hw.base, (hw.weak (List.nil_sublist _) (fun s hs => hs)).toNews⟩

set_option maxRecDepth 100000 in
theorem c_ref05Index (r : Rg) (a : Ad) (h : RgOk r) (h2 : fg a) : RC Tryz.prog 105 #[.agg (dJ r).toArray, .agg (dC a).toArray] [] (α := Int) (fun o => .tuple #[.int .i64 o, .bool (cR r a)]) (fun o => []) := by
 refine bh (args := [.agg (dJ r).toArray, .agg (dC a).toArray]) 37 Tryz.func105 rfl rfl rfl (fun w0 => ?_)
 have hsz := dB r
 refine ao ?_
 refine ab ?_
 refine bx rfl rfl rfl (fun b1 => ?_)
 refine bx rfl rfl rfl (fun b2 => ?_)
 refine ap (ai rfl) rfl rfl ?_
 refine ap (ai rfl) rfl rfl ?_
 refine ae ?_
 refine aj ?_
 refine ao ?_
 refine ao ?_
 refine dN 24 rfl mixed ?_
 refine aC (i := 0) rfl ah (aI 1 bR rfl rfl rfl rfl) au au rfl (aa (aa aq)) (by kernel_rfl) rfl ?_
 refine aC (i := 1) rfl ah (aI 0 aO rfl rfl rfl rfl) au au rfl (aa (aa aq)) (by kernel_rfl) rfl ?_
 refine cr (i := 2) rfl rfl rfl (a8 rfl ent_94) (by kernel_rfl) rfl ?_
 refine aR rfl ent_94 (f8 r a h.1 h2) rfl ?_
 refine ae ?_
 refine br au ?_
 refine wu_splitb (t := 8) rfl (fun h1_2 => ?_) (fun h1_2 => ?_)
 refine aC (i := 3) rfl ah (bJ rfl) au au rfl (aa (aa aq)) (by kernel_rfl) rfl ?_
 refine aC (i := 4) rfl ah (ak rfl) au au rfl (aa (aa aq)) (by kernel_rfl) rfl ?_
 refine aC (i := 5) rfl (ax rfl rfl) (aD dc rfl) au au rfl (aa (aa aq)) (by kernel_rfl) rfl ?_
 refine aC (i := 6) rfl (ax rfl rfl) (aM 0 co rfl rfl rfl) au au rfl (aa (aa aq)) (by kernel_rfl) rfl ?_
 refine aC (i := 7) rfl (ax rfl rfl) (aD cg rfl) au au rfl (aa (aa aq)) (by kernel_rfl) rfl ?_
 refine aC (i := 8) rfl (ax rfl rfl) (aD dc rfl) au au rfl (aa (aa aq)) (by kernel_rfl) rfl ?_
 refine aC (i := 9) rfl (ax rfl rfl) (aM 1 co rfl rfl rfl) au au rfl (aa (aa aq)) (by kernel_rfl) rfl ?_
 refine aC (i := 10) rfl (ax rfl rfl) (cc rfl rfl) au au rfl (aa (aa aq)) (by kernel_rfl) rfl ?_
 refine wu_splitp (t := 16) rfl (fun h1_10 => ?_) (fun h1_10 => ?_)
 refine aC (i := 11) rfl ah (aQ rfl rfl) au au rfl (aa (aa aq)) (by kernel_rfl) rfl ?_
 refine aC (i := 12) rfl ah (ak rfl) au au rfl (aa (aa aq)) (by kernel_rfl) rfl ?_
 refine bX (i := 13) rfl (av rfl rfl rfl) au rfl (aa (aa aq)) (by kernel_rfl) rfl ?_
 refine bX (i := 14) rfl (av rfl rfl rfl) au rfl (aa (aa aq)) (by kernel_rfl) rfl ?_
 refine bX (i := 15) rfl (av rfl rfl rfl) au rfl (aa (aa aq)) (by kernel_rfl) rfl ?_
 refine bX (i := 16) rfl (av rfl rfl rfl) au rfl (aa (aa aq)) (by kernel_rfl) rfl ?_
 refine bX (i := 17) rfl (av rfl rfl rfl) au rfl (aa (aa aq)) (by kernel_rfl) rfl ?_
 refine bX (i := 18) rfl (av rfl rfl rfl) au rfl (aa (aa aq)) (by kernel_rfl) rfl ?_
 refine bX (i := 19) rfl (av rfl rfl rfl) au rfl (aa (aa aq)) (by kernel_rfl) rfl ?_
 refine bX (i := 20) rfl (av rfl rfl rfl) au rfl (aa (aa aq)) (by kernel_rfl) rfl ?_
 refine bX (i := 21) rfl (av rfl rfl rfl) au rfl (aa (aa aq)) (by kernel_rfl) rfl ?_
 refine bX (i := 22) rfl (av rfl rfl rfl) au rfl (aa (aa aq)) (by kernel_rfl) rfl ?_
 refine aC (i := 23) rfl ah (aP rfl rfl) au au rfl (aa (aa aq)) (by kernel_rfl) rfl ?_
 refine cu (by kernel_rfl) ?_
 refine aj ?_
 refine ay rfl ?_
 refine ao ?_
 refine ab ?_
 refine ap (ai rfl) rfl rfl ?_
 refine ap (ai rfl) rfl rfl ?_
 refine ae ?_
 refine aj ?_
 refine aH ?_
 refine az ?_
 refine aN (ts := [4, 5]) rfl rfl rfl (fun w hw => ?_)
 focus first
   | (have hE : cR r a = false := by rw [cR, h1_2]; rfl
      exact ⟨0, by rw [hE]; rfl, hw.base, (hw.weak (List.nil_sublist _) (fun s hs => hs)).toNews⟩)
   | (have hE : cR r a = false := by rw [cR, decide_eq_false h1_10, Bool.false_and, Bool.and_false]
      exact ⟨0, by rw [hE]; rfl, hw.base, (hw.weak (List.nil_sublist _) (fun s hs => hs)).toNews⟩)
   | (have hE : cR r a = false := by rw [cR, decide_eq_false (p := IntKind.u64.wrap (a.lo - r.base.lo) < bk r) (by omega), Bool.and_false, Bool.and_false]
      exact ⟨0, by rw [hE]; rfl, hw.base, (hw.weak (List.nil_sublist _) (fun s hs => hs)).toNews⟩)
   | (have hE : cR r a = true := by rw [cR, h1_2, decide_eq_true (Decidable.not_not.1 h1_10), decide_eq_true (p := IntKind.u64.wrap (a.lo - r.base.lo) < bk r) (by omega)]; rfl
      exact ⟨_, by rw [hE]; rfl, hw.base, (hw.weak (List.nil_sublist _) (fun s hs => hs)).toNews⟩)
   | (trace_state; fail)
 refine aC (i := 11) rfl ah (aQ rfl rfl) au au rfl (aa (aa aq)) (by kernel_rfl) rfl ?_
 refine aC (i := 12) rfl ah (ak rfl) au au rfl (aa (aa aq)) (by kernel_rfl) rfl ?_
 refine aC (i := 13) rfl (ax rfl rfl) (aD ce rfl) au au rfl (aa (aa aq)) (by kernel_rfl) rfl ?_
 refine aC (i := 14) rfl (ax rfl rfl) (aM 0 co rfl rfl rfl) au au rfl (aa (aa aq)) (by kernel_rfl) rfl ?_
 refine aC (i := 15) rfl (ax rfl rfl) (aD cg rfl) au au rfl (aa (aa aq)) (by kernel_rfl) rfl ?_
 refine aC (i := 16) rfl (ax rfl rfl) (aD ce rfl) au au rfl (aa (aa aq)) (by kernel_rfl) rfl ?_
 refine aC (i := 17) rfl (ax rfl rfl) (aM 1 co rfl rfl rfl) au au rfl (aa (aa aq)) (by kernel_rfl) rfl ?_
 refine aC (i := 18) rfl (ax rfl rfl) (y_sub rfl rfl) au au rfl (aa (aa aq)) (by kernel_rfl) rfl ?_
 refine aC (i := 19) rfl (ax rfl rfl) (aI 1 bR rfl rfl rfl rfl) au au rfl (aa (aa aq)) (by kernel_rfl) rfl ?_
 refine cr (i := 20) rfl rfl rfl (a8 rfl ent_92) (by kernel_rfl) rfl ?_
 refine aA rfl rfl ?_
 refine aR rfl ent_92 (eo r h.1) rfl ?_
 refine ae ?_
 refine br au ?_
 refine aC (i := 21) rfl (ax rfl rfl) (cS Tryz.underlying3 Tryz.underlying27 rfl (cL (by omega) (by omega))) au au rfl (aa (aa aq)) (by kernel_rfl) rfl ?_
 refine aC (i := 22) rfl (ax rfl rfl) (fu rfl rfl) au au rfl (aa (aa aq)) (by kernel_rfl) rfl ?_
 refine wu_splitp (t := 28) rfl (fun h1_22 => ?_) (fun h1_22 => ?_)
 refine aC (i := 23) rfl ah (aQ rfl rfl) au au rfl (aa (aa aq)) (by kernel_rfl) rfl ?_
 refine cu (by kernel_rfl) ?_
 refine aj ?_
 refine ay rfl ?_
 refine ao ?_
 refine ab ?_
 refine ap (ai rfl) rfl rfl ?_
 refine ap (ai rfl) rfl rfl ?_
 refine ae ?_
 refine aj ?_
 refine aH ?_
 refine az ?_
 refine aN (ts := [4, 5]) rfl rfl rfl (fun w hw => ?_)
 focus first
   | (have hE : cR r a = false := by rw [cR, h1_2]; rfl
      exact ⟨0, by rw [hE]; rfl, hw.base, (hw.weak (List.nil_sublist _) (fun s hs => hs)).toNews⟩)
   | (have hE : cR r a = false := by rw [cR, decide_eq_false h1_10, Bool.false_and, Bool.and_false]
      exact ⟨0, by rw [hE]; rfl, hw.base, (hw.weak (List.nil_sublist _) (fun s hs => hs)).toNews⟩)
   | (have hE : cR r a = false := by rw [cR, decide_eq_false (p := IntKind.u64.wrap (a.lo - r.base.lo) < bk r) (by omega), Bool.and_false, Bool.and_false]
      exact ⟨0, by rw [hE]; rfl, hw.base, (hw.weak (List.nil_sublist _) (fun s hs => hs)).toNews⟩)
   | (have hE : cR r a = true := by rw [cR, h1_2, decide_eq_true (Decidable.not_not.1 h1_10), decide_eq_true (p := IntKind.u64.wrap (a.lo - r.base.lo) < bk r) (by omega)]; rfl
      exact ⟨_, by rw [hE]; rfl, hw.base, (hw.weak (List.nil_sublist _) (fun s hs => hs)).toNews⟩)
   | (trace_state; fail)
 refine aC (i := 23) rfl ah (aQ rfl rfl) au au rfl (aa (aa aq)) (by kernel_rfl) rfl ?_
 refine cu (by kernel_rfl) ?_
 refine aj ?_
 refine aw rfl ?_
 refine aL ?_
 refine aj ?_
 refine ao ?_
 refine ab ?_
 refine ap (aD ce rfl) rfl rfl ?_
 refine ap (aM 0 co rfl rfl rfl) rfl rfl ?_
 refine ap (aD cg rfl) rfl rfl ?_
 refine ap (aD ce rfl) rfl rfl ?_
 refine ap (aM 1 co rfl rfl rfl) rfl rfl ?_
 refine ap (y_sub rfl rfl) rfl rfl ?_
 refine ap (fv Tryz.underlying27 Tryz.underlying3 rfl) rfl rfl ?_
 refine ap (ai rfl) rfl rfl ?_
 refine ap (ai rfl) rfl rfl ?_
 refine ae ?_
 refine aj ?_
 refine aH ?_
 refine aN (ts := [4, 5]) rfl rfl rfl (fun w hw => ?_)
 focus first
   | (have hE : cR r a = false := by rw [cR, h1_2]; rfl
      exact ⟨0, by rw [hE]; rfl, hw.base, (hw.weak (List.nil_sublist _) (fun s hs => hs)).toNews⟩)
   | (have hE : cR r a = false := by rw [cR, decide_eq_false h1_10, Bool.false_and, Bool.and_false]
      exact ⟨0, by rw [hE]; rfl, hw.base, (hw.weak (List.nil_sublist _) (fun s hs => hs)).toNews⟩)
   | (have hE : cR r a = false := by rw [cR, decide_eq_false (p := IntKind.u64.wrap (a.lo - r.base.lo) < bk r) (by omega), Bool.and_false, Bool.and_false]
      exact ⟨0, by rw [hE]; rfl, hw.base, (hw.weak (List.nil_sublist _) (fun s hs => hs)).toNews⟩)
   | (have hE : cR r a = true := by rw [cR, h1_2, decide_eq_true (Decidable.not_not.1 h1_10), decide_eq_true (p := IntKind.u64.wrap (a.lo - r.base.lo) < bk r) (by omega)]; rfl
      exact ⟨_, by rw [hE]; rfl, hw.base, (hw.weak (List.nil_sublist _) (fun s hs => hs)).toNews⟩)
   | (trace_state; fail)
 refine aC (i := 3) rfl ah (bJ rfl) au au rfl (aa (aa aq)) (by kernel_rfl) rfl ?_
 refine aC (i := 4) rfl ah (ak rfl) au au rfl (aa (aa aq)) (by kernel_rfl) rfl ?_
 refine bX (i := 5) rfl (av rfl rfl rfl) au rfl (aa (aa aq)) (by kernel_rfl) rfl ?_
 refine bX (i := 6) rfl (av rfl rfl rfl) au rfl (aa (aa aq)) (by kernel_rfl) rfl ?_
 refine bX (i := 7) rfl (av rfl rfl rfl) au rfl (aa (aa aq)) (by kernel_rfl) rfl ?_
 refine bX (i := 8) rfl (av rfl rfl rfl) au rfl (aa (aa aq)) (by kernel_rfl) rfl ?_
 refine bX (i := 9) rfl (av rfl rfl rfl) au rfl (aa (aa aq)) (by kernel_rfl) rfl ?_
 refine bX (i := 10) rfl (av rfl rfl rfl) au rfl (aa (aa aq)) (by kernel_rfl) rfl ?_
 refine aC (i := 11) rfl ah (aP rfl rfl) au au rfl (aa (aa aq)) (by kernel_rfl) rfl ?_
 refine aC (i := 12) rfl ah (ak rfl) au au rfl (aa (aa aq)) (by kernel_rfl) rfl ?_
 refine bX (i := 13) rfl (av rfl rfl rfl) au rfl (aa (aa aq)) (by kernel_rfl) rfl ?_
 refine bX (i := 14) rfl (av rfl rfl rfl) au rfl (aa (aa aq)) (by kernel_rfl) rfl ?_
 refine bX (i := 15) rfl (av rfl rfl rfl) au rfl (aa (aa aq)) (by kernel_rfl) rfl ?_
 refine bX (i := 16) rfl (av rfl rfl rfl) au rfl (aa (aa aq)) (by kernel_rfl) rfl ?_
 refine bX (i := 17) rfl (av rfl rfl rfl) au rfl (aa (aa aq)) (by kernel_rfl) rfl ?_
 refine bX (i := 18) rfl (av rfl rfl rfl) au rfl (aa (aa aq)) (by kernel_rfl) rfl ?_
 refine bX (i := 19) rfl (av rfl rfl rfl) au rfl (aa (aa aq)) (by kernel_rfl) rfl ?_
 refine bX (i := 20) rfl (av rfl rfl rfl) au rfl (aa (aa aq)) (by kernel_rfl) rfl ?_
 refine bX (i := 21) rfl (av rfl rfl rfl) au rfl (aa (aa aq)) (by kernel_rfl) rfl ?_
 refine bX (i := 22) rfl (av rfl rfl rfl) au rfl (aa (aa aq)) (by kernel_rfl) rfl ?_
 refine aC (i := 23) rfl ah (aP rfl rfl) au au rfl (aa (aa aq)) (by kernel_rfl) rfl ?_
 refine cu (by kernel_rfl) ?_
 refine aj ?_
 refine ay rfl ?_
 refine ao ?_
 refine ab ?_
 refine ap (ai rfl) rfl rfl ?_
 refine ap (ai rfl) rfl rfl ?_
 refine ae ?_
 refine aj ?_
 refine aH ?_
 refine az ?_
 refine aN (ts := [4, 5]) rfl rfl rfl (fun w hw => ?_)
 focus first
   | (have hE : cR r a = false := by rw [cR, h1_2]; rfl
      exact ⟨0, by rw [hE]; rfl, hw.base, (hw.weak (List.nil_sublist _) (fun s hs => hs)).toNews⟩)
   | (have hE : cR r a = false := by rw [cR, decide_eq_false h1_10, Bool.false_and, Bool.and_false]
      exact ⟨0, by rw [hE]; rfl, hw.base, (hw.weak (List.nil_sublist _) (fun s hs => hs)).toNews⟩)
   | (have hE : cR r a = false := by rw [cR, decide_eq_false (p := IntKind.u64.wrap (a.lo - r.base.lo) < bk r) (by omega), Bool.and_false, Bool.and_false]
      exact ⟨0, by rw [hE]; rfl, hw.base, (hw.weak (List.nil_sublist _) (fun s hs => hs)).toNews⟩)
   | (have hE : cR r a = true := by rw [cR, h1_2, decide_eq_true (Decidable.not_not.1 h1_10), decide_eq_true (p := IntKind.u64.wrap (a.lo - r.base.lo) < bk r) (by omega)]; rfl
      exact ⟨_, by rw [hE]; rfl, hw.base, (hw.weak (List.nil_sublist _) (fun s hs => hs)).toNews⟩)
   | (trace_state; fail)
end Go.Proofs.YtnpdgmoeoidppaaGreat

/- law 14: a push twice -/
namespace Go.Proofs.YtnpdgmoeoidppaaGreat
open Go.RowKit Go.Shelf
set_option linter.unusedVariables false
set_option linter.unusedSimpArgs false

theorem ent_30 : Enters Tryz.prog 30 := enters_of Tryz.func30 (by kernel_rfl) rfl
theorem ent_32 : Enters Tryz.prog 32 := enters_of Tryz.func32 (by kernel_rfl) rfl
theorem ent_36 : Enters Tryz.prog 36 := enters_of Tryz.func36 (by kernel_rfl) rfl
end Go.Proofs.YtnpdgmoeoidppaaGreat
