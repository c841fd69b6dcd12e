/- what an index finds, in plain words -/
import Derived.Test.YtckfjfnkombelaaJcQF
namespace Go.Proofs.Ytckfjfnkombelaa
open Go.RowKit Go.Shelf
set_option linter.unusedVariables false
set_option linter.unusedSimpArgs false

theorem fi_mem {x : Ixd} {l : List Le} (h : IxOk l x) {n : Str} {y : Le} (hf : findI x.hm n = some y) : y ∈ x.l := by
  have look : ∀ {key : Str} {y : Le}, lkp x.hm key = some y → y ∈ x.l := fun hl => by
    rw [h.hm] at hl; exact List.mem_of_find?_eq_some hl
  unfold findI at hf
  split at hf
  · cases hf
  · cases h1 : lkp x.hm (foldN n) with
    | some z => rw [h1] at hf; have : z = y := Option.some.inj hf; subst this; exact look h1
    | none =>
      rw [h1] at hf
      have hf : (pars (foldN n)).findSome? (fun p => lkp x.hm ([1, 42] ++ p)) = some y := hf
      obtain ⟨_, p, _, _, h2, _⟩ := List.findSome?_eq_some_iff.1 hf
      exact look h2
theorem xl_src {x : Ixd} {l : List Le} (h : IxOk l x) {y : Le} (hy : y ∈ x.l) : ∃ z ∈ l, z.e = y.e := by
  have : y.e ∈ l.map (·.e) := by rw [← h.es]; exact List.mem_map.2 ⟨y, hy, rfl⟩
  obtain ⟨z, hz, e⟩ := List.mem_map.1 this
  exact ⟨z, hz, e⟩
theorem fi_bnd {x : Ixd} {l : List Le} (h : IxOk l x) (hok : TbOk l) {y : Le} (hy : y ∈ le0 :: x.l) : EnB y.e := by
  rcases List.mem_cons.1 hy with rfl | hy
  · exact ⟨nofun, by decide, by decide, by decide, by decide, by decide⟩
  · obtain ⟨z, hz, e⟩ := xl_src h hy
    exact (hok.mem' hz).eq e.symm
theorem map_some {α β : Type} {o : Option α} {f : α → β} {b : β} (d : α) (h : o.map f = some b) : o.isSome = true ∧ f (o.getD d) = b := by
  cases o with
  | none => cases h
  | some a => exact ⟨rfl, Option.some.inj h⟩
theorem ck_nofix {e : En} (h : entCk e = 0) (hk : e.kind ≠ 1) : e.addrs = [] := by
  have hm : mayOk e = true := by
    unfold entCk at h
    split at h
    · omega
    · split at h
      · omega
      · rename_i h2
        cases hq : mayOk e with
        | true => rfl
        | false => exact absurd (.inr (.inr (.inr hq))) h2
  unfold mayOk at hm
  rw [if_neg hk] at hm
  split at hm
  · simp only [Bool.and_eq_true, decide_eq_true_eq] at hm; exact List.length_eq_zero_iff.1 hm.1.1
  · split at hm
    · simp only [Bool.and_eq_true, decide_eq_true_eq] at hm; exact List.length_eq_zero_iff.1 hm.1.1.1.1.1
    · cases hm
theorem find_same {v : Int} {l : List Le} {x : Ixd} (hx : IxOk l x) (h : tabCk v l = 0) {n : Str} {i : Nat} (hi : i < l.length) (hs : same2 (hst l i) n = true) : (findI x.hm n).map (·.e) = some (l.getD i le0).e :=
  find_ref hx h (r := some (l.getD i le0)) ⟨mem_getD hi, .inl hs⟩
theorem find_own {v : Int} {l : List Le} {x : Ixd} (hx : IxOk l x) (h : tabCk v l = 0) {i : Nat} (hi : i < l.length) : (findI x.hm (hst l i)).map (·.e) = some (l.getD i le0).e := by
  have c : nameCk (hst l i) = 0 := ck_host ((tab_zero h).1 _ (mem_getD hi))
  exact find_same hx h hi ((same2_iff c c).2 rfl)
theorem find_first {α : Type} {F : α → Bool} {l : List α} {i : Nat} (hi : i < l.length) (h : ∀ q ∈ l.take i, F q = false) (h2 : F l[i] = true) : l.find? F = some l[i] := by
  have e : l = l.take i ++ l[i] :: l.drop (i + 1) := by rw [← List.drop_eq_getElem_cons hi, List.take_append_drop]
  conv => lhs; rw [e]
  rw [List.find?_append, List.find?_eq_none.2 (fun q hq => by rw [h q hq]; decide), List.find?_cons_of_pos h2]; rfl
theorem held_at {es : List En} {hs : List Hd} (H : HeldOk es hs) {p : Hd} (hp : p ∈ hs) : (nameCk p.host = 0 ∧ (∃ e, lookE es (foldN p.host) = some e ∧ e.kind = 2) ∧ addrCk p.ad = 0) ∧ hs.find? (fun h => decide (h.ad = p.ad)) = some p ∧ hs.find? (fun h => decide (foldN h.host = foldN p.host)) = some p := by
  obtain ⟨i, hi, rfl⟩ := List.mem_iff_getElem.1 hp
  have h1 := H i hi
  rw [List.getD_eq_getElem?_getD, List.getElem?_eq_getElem hi] at h1
  obtain ⟨q1, q2, q3, q4, q5⟩ := h1
  exact ⟨⟨q1, q2, q3⟩, find_first hi (fun q hq => decide_eq_false (q5 q hq)) (decide_eq_true rfl), find_first hi (fun q hq => decide_eq_false (q4 q hq)) (decide_eq_true rfl)⟩
theorem xl_ck {v : Int} {l : List Le} {x : Ixd} (hx : IxOk l x) (h : tabCk v l = 0) {y : Le} (hy : y ∈ x.l) : entCk y.e = 0 := by
  obtain ⟨z, hz, e⟩ := xl_src hx hy
  rw [← e]; exact (tab_zero h).1 z hz
theorem own_some {x : Ixd} {h : Str} {y : Le} (hy : ownI x h = some y) : nameCk h = 0 ∧ lkp x.hm (foldN h) = some y := by
  unfold ownI at hy
  split at hy
  · cases hy
  · exact ⟨by omega, hy⟩
theorem hm_mem {m : List (Str × Le)} {lc : List Le} (h : HmOk m lc) {key : Str} {y : Le} (hl : lkp m key = some y) : y ∈ lc ∧ foldN y.e.host = key := by
  have := hm_some h (key := key) (by rw [hl]; rfl)
  rw [hl] at this; exact this
theorem own_self {v : Int} {l : List Le} {x : Ixd} (hx : IxOk l x) (h : tabCk v l = 0) {key : Str} {y : Le} (hl : lkp x.hm key = some y) : adsI x y.e.host = entAd y.e (heldI x y) := by
  obtain ⟨hm, hf⟩ := hm_mem hx.hm hl
  have hn := ck_host (xl_ck hx h hm)
  rw [adsI, ownI, if_neg (fun q => q hn), hf, hl]
theorem own_like {v : Int} {l : List Le} {x : Ixd} (hx : IxOk l x) (h : tabCk v l = 0) {z : Le} (hz : z ∈ x.l) : ∃ y, lkp x.hm (foldN z.e.host) = some y ∧ y.e = z.e ∧ adsI x z.e.host = entAd z.e (heldI x y) := by
  have h1 : (lkp x.hm (foldN z.e.host)).map (·.e) = some z.e := by
    rw [hm_look hx.hm]
    exact look_some (by rw [hx.es]; exact tab_hosts h) (List.mem_map.2 ⟨z, hz, rfl⟩)
  cases hl : lkp x.hm (foldN z.e.host) with
  | none => rw [hl] at h1; cases h1
  | some y =>
    rw [hl] at h1
    have e : y.e = z.e := Option.some.inj h1
    refine ⟨y, rfl, e, ?_⟩
    rw [← e]; exact own_self hx h hl
theorem held_ads {v : Int} {l : List Le} {hs : List Hd} {x : Ixd} (hx : IxOk2 l hs x) (h : tabCk v l = 0) (H : HeldOk (l.map (·.e)) hs) {p : Hd} (hp : p ∈ hs) : ∃ z, lkp x.hm (foldN p.host) = some z ∧ adsI x z.e.host = [p.ad] ∧ z.e.kind = 2 := by
  obtain ⟨⟨q1, ⟨e, q2, q3⟩, q4⟩, q5, q6⟩ := held_at H hp
  have h1 : (lkp x.hm (foldN p.host)).map (·.e) = some e := by rw [hm_look hx.ix.hm, hx.ix.es]; exact q2
  cases hl : lkp x.hm (foldN p.host) with
  | none => rw [hl] at h1; cases h1
  | some z =>
    rw [hl] at h1
    have e2 : z.e = e := Option.some.inj h1
    obtain ⟨hm, hf⟩ := hm_mem hx.ix.hm hl
    have hk : z.e.kind = 2 := by rw [e2]; exact q3
    refine ⟨z, rfl, ?_, hk⟩
    rw [own_self hx.ix h hl, entAd, if_neg (fun q => q (xl_ck hx.ix h hm)), if_neg (by omega), if_neg (by omega), heldI, hf, hx.dm, q6]
    show List.filter (fun a => decide (addrCk a = 0)) [p.ad] = _
    rw [List.filter_cons_of_pos (by simpa using q4)]; rfl
theorem am_held {l : List Le} {hs : List Hd} {x : Ixd} (hx : IxOk2 l hs x) (H : HeldOk (l.map (·.e)) hs) {p : Hd} (hp : p ∈ hs) {z : Le} (hl : lkp x.hm (foldN p.host) = some z) : lkp x.am p.ad = some z := by
  rw [hx.am, (held_at H hp).2.1, Option.bind_some, hl]; rfl
theorem ads_len {l : List Le} {x : Ixd} (hx : IxOk l x) (hok : TbOk l) (n : Str) : (adsI x n).length ≤ 1000 := by
  cases ho : ownI x n with
  | none => rw [adsI, ho]; exact Nat.zero_le _
  | some y =>
    rw [adsI, ho]
    have hb := (fi_bnd hx hok (.tail _ (hm_mem hx.hm (own_some ho).2).1)).la
    show (entAd y.e (heldI x y)).length ≤ 1000
    unfold entAd
    split
    · exact Nat.zero_le _
    · split
      · exact hb
      · split
        · exact Nat.zero_le _
        · refine Nat.le_trans (List.length_filter_le _ _) ?_
          unfold heldI
          cases lkp x.dm (foldN y.e.host) <;> simp
/-- What an entry's address leads to has it. -/
theorem of_ads {v : Int} {l : List Le} {hs : List Hd} {x : Ixd} (hx : IxOk2 l hs x) (h : tabCk v l = 0) (H : HeldOk (l.map (·.e)) hs) {n : Str} {a : Ad} (ha : a ∈ adsI x n) : ∃ z, lkp x.am a = some z ∧ a ∈ adsI x z.e.host := by
  cases ho : ownI x n with
  | none => rw [adsI, ho] at ha; cases ha
  | some y =>
    rw [adsI, ho] at ha
    obtain ⟨hn, hl⟩ := own_some ho
    obtain ⟨hym, hyf⟩ := hm_mem hx.ix.hm hl
    have hyc := xl_ck hx.ix h hym
    simp only [entAd] at ha
    rw [if_neg (fun q => q hyc)] at ha
    by_cases k1 : y.e.kind = 1
    · rw [if_pos k1] at ha
      cases hf : hs.find? (fun p => decide (p.ad = a)) with
      | some p =>
        have hp := List.mem_of_find?_eq_some hf
        have e : p.ad = a := by have := List.find?_some hf; simpa using this
        subst e
        obtain ⟨z, h1, h2, _⟩ := held_ads hx h H hp
        exact ⟨z, am_held hx H hp h1, by rw [h2]; exact .head _⟩
      | none =>
        have hm : lkp x.am a = x.l.find? fun y => decide (a ∈ y.e.addrs) := by rw [hx.am, hf]; rfl
        cases hg : x.l.find? fun y => decide (a ∈ y.e.addrs) with
        | none => have := List.find?_eq_none.1 hg y hym; simp [ha] at this
        | some z =>
          have hz := List.mem_of_find?_eq_some hg
          have hza : a ∈ z.e.addrs := by have := List.find?_some hg; simpa using this
          have hzk : z.e.kind = 1 := by
            by_cases q : z.e.kind = 1
            · exact q
            · rw [ck_nofix (xl_ck hx.ix h hz) q] at hza; cases hza
          obtain ⟨y2, _, _, e3⟩ := own_like hx.ix h hz
          refine ⟨z, by rw [hm, hg], ?_⟩
          rw [e3, entAd, if_neg (fun q => q (xl_ck hx.ix h hz)), if_pos hzk]; exact hza
    · rw [if_neg k1] at ha
      split at ha
      · cases ha
      · rename_i k2
        have hb := List.mem_filter.1 ha
        have h3 : lkp x.dm (foldN y.e.host) = some a := by
          have := hb.1
          unfold heldI at this
          cases hq : lkp x.dm (foldN y.e.host) with
          | none => rw [hq] at this; cases this
          | some b => rw [hq] at this; rw [List.mem_singleton.1 this]
        rw [hx.dm] at h3
        cases hf : hs.find? fun p => decide (foldN p.host = foldN y.e.host) with
        | none => rw [hf] at h3; cases h3
        | some p =>
          rw [hf] at h3
          have e : p.ad = a := Option.some.inj h3
          subst e
          have hp := List.mem_of_find?_eq_some hf
          have e4 : foldN p.host = foldN y.e.host := by have := List.find?_some hf; simpa using this
          obtain ⟨z, h1, h2, _⟩ := held_ads hx h H hp
          exact ⟨z, am_held hx H hp h1, by rw [h2]; exact .head _⟩
def LongOk (l : List Le) (n : Str) (i long : Nat) : Prop := (∀ q, q < i → same2 (hst l q) n = false) ∧ (∀ q, q < i → matchN (hst l q) n = true → (labsN (hst l q)).length ≤ long) ∧ (long = 0 ∨ ∃ q, q < i ∧ matchN (hst l q) n = true ∧ (labsN (hst l q)).length = long)
theorem long_zero (l : List Le) (n : Str) : LongOk l n 0 0 := ⟨nofun, nofun, .inl rfl⟩
theorem long_yes {l : List Le} {n : Str} {i long : Nat} (h : LongOk l n i long) (hs : same2 (hst l i) n = false) (hm : matchN (hst l i) n = true) : LongOk l n (i + 1) (max long (labsN (hst l i)).length) := by
  obtain ⟨h1, h2, h3⟩ := h
  refine ⟨fun q hq => ?_, fun q hq hqm => ?_, ?_⟩
  · by_cases e : q = i
    · rw [e]; exact hs
    · exact h1 q (by omega)
  · by_cases e : q = i
    · rw [e]; omega
    · have := h2 q (by omega) hqm; omega
  · by_cases e : (labsN (hst l i)).length ≤ long
    · rw [Nat.max_eq_left e]
      exact h3.imp id fun ⟨q, h4, h5⟩ => ⟨q, by omega, h5⟩
    · exact .inr ⟨i, by omega, hm, by omega⟩
theorem long_no {l : List Le} {n : Str} {i long : Nat} (h : LongOk l n i long) (hs : same2 (hst l i) n = false) (hm : matchN (hst l i) n = false) : LongOk l n (i + 1) long := by
  obtain ⟨h1, h2, h3⟩ := h
  refine ⟨fun q hq => ?_, fun q hq hqm => ?_, h3.imp id fun ⟨q, h4, h5⟩ => ⟨q, by omega, h5⟩⟩
  · by_cases e : q = i
    · rw [e]; exact hs
    · exact h1 q (by omega)
  · by_cases e : q = i
    · rw [e, hm] at hqm; cases hqm
    · exact h2 q (by omega) hqm
theorem long_none {v : Int} {l : List Le} {x : Ixd} (hx : IxOk l x) (h : tabCk v l = 0) {n : Str} {long : Nat} (hl : LongOk l n l.length long) (h0 : long = 0) : (findI x.hm n).isSome = false := by
  obtain ⟨h1, h2, _⟩ := hl
  have : RefSpec l n none := ⟨at_all (p := fun s => same2 s n = false) h1, at_all (p := fun s => matchN s n = false) fun q hq => by
    cases hm : matchN (hst l q) n with
    | false => rfl
    | true => have := h2 q hq hm; have := match_pos hm; omega⟩
  exact (find_is hx h this).symm
theorem long_some {v : Int} {l : List Le} {x : Ixd} (hx : IxOk l x) (h : tabCk v l = 0) {n : Str} {long : Nat} (hl : LongOk l n l.length long) (h0 : long ≠ 0) : (findI x.hm n).isSome = true ∧ matchN ((findI x.hm n).getD le0).e.host n = true ∧ (labsN ((findI x.hm n).getD le0).e.host).length = long := by
  obtain ⟨h1, h2, h3⟩ := hl
  obtain ⟨q, hq, hm, hll⟩ := h3.resolve_left h0
  have hr : RefSpec l n (some (l.getD q le0)) := ⟨mem_getD hq, .inr ⟨at_all (p := fun s => same2 s n = false) h1, hm, at_all (p := fun s => matchN s n = true → (labsN s).length ≤ (labsN (hst l q)).length) fun j hj hjm => by rw [hll]; exact h2 j hj hjm⟩⟩
  have hfr : (findI x.hm n).map (·.e) = some (l.getD q le0).e := find_ref hx h hr
  obtain ⟨e1, e2⟩ := map_some le0 hfr
  exact ⟨e1, by rw [e2]; exact hm, by rw [e2]; exact hll⟩
theorem fi_mem2 {x : Ixd} {l : List Le} (h : IxOk l x) (n : Str) : (findI x.hm n).getD le0 ∈ le0 :: x.l := by
  cases hf : findI x.hm n with
  | none => exact .head _
  | some y => exact .tail _ (fi_mem h hf)
theorem has_step {M : List Ad} {a : Ad} {j : Nat} {b : Bool} (hj : j < M.length) (h : b = decide (a ∈ M.take j)) : (b || decide (M.getD j ad0 = a)) = decide (a ∈ M.take (j + 1)) := by
  rw [take_getD M ad0 j hj, h, Bool.eq_iff_iff]
  simp only [Bool.or_eq_true, decide_eq_true_eq, List.mem_append, List.mem_singleton]
  exact or_congr Iff.rfl eq_comm
def ixP : Option Ixd → Option Addr
  | some x => some ⟨x.b, 0, none⟩
  | none => none
def ixE : Option Ixd → Int
  | some _ => 0
  | none => 2
theorem ixV_pe (o : Option Ixd) : ixV o = .tuple #[.pointer (ixP o), .int .i64 (ixE o)] := by cases o <;> rfl
theorem ixE_no {o : Option Ixd} (h : ixE o ≠ 0) : o = none := by cases o with
  | none => rfl
  | some x => exact absurd rfl h
theorem ixE_yes {o : Option Ixd} (h : ¬ ixE o ≠ 0) : ∃ x, o = some x := by cases o with
  | none => exact absurd (by decide) h
  | some x => exact ⟨x, rfl⟩

end Go.Proofs.Ytckfjfnkombelaa
