/- what an index finds, in plain words -/
import Derived.Test.YtckfjfnkombelaaJcQO
namespace Go.Proofs.Ytckfjfnkombelaa
open Go.RowKit Go.Shelf
set_option linter.unusedVariables false
set_option linter.unusedSimpArgs false

theorem fi_mem {x : Ixd} {l : List Le} (h : IxOk l x) {n : Str} {y : Le} (hf : findI x.hm n = some y) : y ∈ x.l := by
  have look : ∀ {key : Str} {y : Le}, lkp x.hm key = some y → y ∈ x.l := fun hl => by
    rw [h.hm] at hl; exact List.mem_of_find?_eq_some hl
  unfold findI at hf
  split at hf
  · cases hf
  · cases h1 : lkp x.hm (foldN n) with
    | some z => rw [h1] at hf; have : z = y := Option.some.inj hf; subst this; exact look h1
    | none =>
      rw [h1] at hf
      have hf : (pars (foldN n)).findSome? (fun p => lkp x.hm ([1, 42] ++ p)) = some y := hf
      obtain ⟨_, p, _, _, h2, _⟩ := List.findSome?_eq_some_iff.1 hf
      exact look h2
theorem xl_src {x : Ixd} {l : List Le} (h : IxOk l x) {y : Le} (hy : y ∈ x.l) : ∃ z ∈ l, z.e = y.e := by
  have : y.e ∈ l.map (·.e) := by rw [← h.es]; exact List.mem_map.2 ⟨y, hy, rfl⟩
  obtain ⟨z, hz, e⟩ := List.mem_map.1 this
  exact ⟨z, hz, e⟩
theorem fi_bnd {x : Ixd} {l : List Le} (h : IxOk l x) (hok : TbOk l) {y : Le} (hy : y ∈ le0 :: x.l) : EnB y.e := by
  rcases List.mem_cons.1 hy with rfl | hy
  · exact ⟨nofun, by decide, by decide, by decide, by decide, by decide⟩
  · obtain ⟨z, hz, e⟩ := xl_src h hy
    exact (hok.mem' hz).eq e.symm
theorem map_some {α β : Type} {o : Option α} {f : α → β} {b : β} (d : α) (h : o.map f = some b) : o.isSome = true ∧ f (o.getD d) = b := by
  cases o with
  | none => cases h
  | some a => exact ⟨rfl, Option.some.inj h⟩
theorem find_first {α : Type} {F : α → Bool} {l : List α} {i : Nat} (hi : i < l.length) (h : ∀ q ∈ l.take i, F q = false) (h2 : F l[i] = true) : l.find? F = some l[i] := by
  have e : l = l.take i ++ l[i] :: l.drop (i + 1) := by rw [← List.drop_eq_getElem_cons hi, List.take_append_drop]
  conv => lhs; rw [e]
  rw [List.find?_append, List.find?_eq_none.2 (fun q hq => by rw [h q hq]; decide), List.find?_cons_of_pos h2]; rfl
theorem held_at {es : List En} {hs : List Hd} (H : HeldOk es hs) {p : Hd} (hp : p ∈ hs) : (nameCk p.host = 0 ∧ (∃ e, lookE es (foldN p.host) = some e ∧ e.kind = 2) ∧ addrCk p.ad = 0) ∧ hs.find? (fun h => decide (h.ad = p.ad)) = some p ∧ hs.find? (fun h => decide (foldN h.host = foldN p.host)) = some p := by
  obtain ⟨i, hi, rfl⟩ := List.mem_iff_getElem.1 hp
  have h1 := H i hi
  rw [List.getD_eq_getElem?_getD, List.getElem?_eq_getElem hi] at h1
  obtain ⟨q1, q2, q3, q4, q5⟩ := h1
  exact ⟨⟨q1, q2, q3⟩, find_first hi (fun q hq => decide_eq_false (q5 q hq)) (decide_eq_true rfl), find_first hi (fun q hq => decide_eq_false (q4 q hq)) (decide_eq_true rfl)⟩
theorem own_some {x : Ixd} {h : Str} {y : Le} (hy : ownI x h = some y) : nameCk h = 0 ∧ lkp x.hm (foldN h) = some y := by
  unfold ownI at hy
  split at hy
  · cases hy
  · exact ⟨by omega, hy⟩
theorem hm_mem {m : List (Str × Le)} {lc : List Le} (h : HmOk m lc) {key : Str} {y : Le} (hl : lkp m key = some y) : y ∈ lc ∧ foldN y.e.host = key := by
  have := hm_some h (key := key) (by rw [hl]; rfl)
  rw [hl] at this; exact this
theorem ads_len {l : List Le} {x : Ixd} (hx : IxOk l x) (hok : TbOk l) (n : Str) : (adsI x n).length ≤ 1000 := by
  cases ho : ownI x n with
  | none => rw [adsI, ho]; exact Nat.zero_le _
  | some y =>
    rw [adsI, ho]
    have hb := (fi_bnd hx hok (.tail _ (hm_mem hx.hm (own_some ho).2).1)).la
    show (entAd y.e (heldI x y)).length ≤ 1000
    unfold entAd
    split
    · exact Nat.zero_le _
    · split
      · exact hb
      · split
        · exact Nat.zero_le _
        · refine Nat.le_trans (List.length_filter_le _ _) ?_
          unfold heldI
          cases lkp x.dm (foldN y.e.host) <;> simp
theorem fi_mem2 {x : Ixd} {l : List Le} (h : IxOk l x) (n : Str) : (findI x.hm n).getD le0 ∈ le0 :: x.l := by
  cases hf : findI x.hm n with
  | none => exact .head _
  | some y => exact .tail _ (fi_mem h hf)
theorem am_mem {l : List Le} {hs : List Hd} {x : Ixd} (hx : IxOk2 l hs x) (a : Ad) : (lkp x.am a).getD le0 ∈ le0 :: x.l := by
  cases hf : lkp x.am a with
  | none => exact .head _
  | some z =>
    refine .tail _ ?_
    rw [hx.am] at hf
    cases hb : (hs.find? fun h => decide (h.ad = a)).bind fun h => lkp x.hm (foldN h.host) with
    | some y =>
      rw [hb] at hf
      obtain rfl := Option.some.inj hf
      cases hq : hs.find? fun h => decide (h.ad = a) with
      | none => rw [hq] at hb; cases hb
      | some p => rw [hq] at hb; exact (hm_mem hx.ix.hm hb).1
    | none => rw [hb] at hf; exact List.mem_of_find?_eq_some hf
def ixP : Option Ixd → Option Addr
  | some x => some ⟨x.b, 0, none⟩
  | none => none
def ixE : Option Ixd → Int
  | some _ => 0
  | none => 2
theorem ixV_pe (o : Option Ixd) : ixV o = .tuple #[.pointer (ixP o), .int .i64 (ixE o)] := by cases o <;> rfl
theorem ixE_yes {o : Option Ixd} (h : ¬ ixE o ≠ 0) : ∃ x, o = some x := by cases o with
  | none => exact absurd (by decide) h
  | some x => exact ⟨x, rfl⟩

end Go.Proofs.Ytckfjfnkombelaa
