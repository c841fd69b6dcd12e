/- entries: the plain laws of their records -/
import Derived.Test.YtckfjfnkombelaaGreatCi
namespace Go.Proofs.YtckfjfnkombelaaGreat
open Go.RowKit Go.Shelf
set_option linter.unusedVariables false
set_option linter.unusedSimpArgs false


theorem ck_host {e : En} (h : entCk e = 0) : nameCk e.host = 0 := by
  unfold entCk at h
  split at h
  · exact h
  · omega
theorem ck_parts {e : En} (h : entCk e = 0) : e.host ≠ [] ∧ e.ttl ≤ 2147483647 ∧ portsOk e.ports = true ∧ mayOk e = true := by
  have h1 := ck_host h
  rw [entCk, if_neg (by omega)] at h
  split at h
  · omega
  · rename_i h2
    have h3 : ¬ e.host = [] ∧ ¬ 2147483647 < e.ttl ∧ ¬ portsOk e.ports = false ∧ ¬ mayOk e = false := ⟨fun q => h2 (.inl q), fun q => h2 (.inr (.inl q)), fun q => h2 (.inr (.inr (.inl q))), fun q => h2 (.inr (.inr (.inr q)))⟩
    exact ⟨h3.1, by omega, by simpa using h3.2.2.1, by simpa using h3.2.2.2⟩
theorem ck_ports {e : En} (h : entCk e = 0) : ∀ p ∈ e.ports, 1 ≤ p ∧ p ≤ 65535 := fun p hp => by
  have h1 := (ck_parts h).2.2.1
  simp only [portsOk, Bool.and_eq_true, decide_eq_true_eq] at h1
  obtain ⟨i, hi, rfl⟩ := List.mem_iff_getElem.1 hp
  have h2 := h1.1 i hi
  unfold portOk at h2
  rw [List.getD_eq_getElem?_getD, List.getElem?_eq_getElem hi] at h2
  exact ⟨h2.1, h2.2.1⟩
theorem ck_alias {e : En} (h : entCk e = 0) (hk : e.kind = 3) : nameCk e.alias = 0 ∧ e.ports = [] ∧ e.alias ≠ [] := by
  have h1 := (ck_parts h).2.2.2
  unfold mayOk at h1
  rw [hk] at h1
  simp only [show ¬ (3 : Int) = 1 by decide, show ¬ (3 : Int) = 2 by decide, if_false, if_true, Bool.and_eq_true, decide_eq_true_eq] at h1
  exact ⟨h1.1.2, List.length_eq_zero_iff.1 h1.1.1.1.1.2, h1.1.1.2⟩
theorem ck_fixed {e : En} (h : entCk e = 0) (hk : e.kind = 1) : adsOk e.addrs = true := by
  have h1 := (ck_parts h).2.2.2
  unfold mayOk at h1
  rw [if_pos hk] at h1
  simp only [Bool.and_eq_true] at h1
  exact h1.1.1
theorem ck_kind {e : En} (h : entCk e = 0) : e.kind = 1 ∨ e.kind = 2 ∨ e.kind = 3 := by
  have h1 := (ck_parts h).2.2.2
  unfold mayOk at h1
  split at h1
  · exact .inl ‹_›
  · split at h1
    · exact .inr (.inl ‹_›)
    · split at h1
      · exact .inr (.inr ‹_›)
      · simp at h1
theorem entAd_ck {e : En} {held : List Ad} : ∀ a ∈ entAd e held, addrCk a = 0 := fun a ha => by
  unfold entAd at ha
  split at ha
  · cases ha
  · rename_i h1
    split at ha
    · rename_i h2
      have h3 := ck_fixed (by omega) h2
      simp only [adsOk, Bool.and_eq_true, decide_eq_true_eq] at h3
      obtain ⟨i, hi, rfl⟩ := List.mem_iff_getElem.1 ha
      have h4 := (h3.1.1 i hi).1
      rwa [List.getD_eq_getElem?_getD, List.getElem?_eq_getElem hi] at h4
    · split at ha
      · cases ha
      · have := (List.mem_filter.1 ha).2
        simpa using this
theorem entAd_no3 {e : En} {held : List Ad} (h : e.kind = 3) : entAd e held = [] := by
  unfold entAd
  split
  · rfl
  · rw [if_neg (by omega), if_pos (by omega)]
theorem mem_each {α : Type} {D : α → Dt} {B : α → Bool} {r q : Rc} {l : List α} (h : q ∈ each D B r l) : ∃ a ∈ l, B a = true ∧ q = { r with dt := D a } := by
  obtain ⟨a, ha, rfl⟩ := List.mem_map.1 h
  exact ⟨a, (List.mem_filter.1 ha).1, (List.mem_filter.1 ha).2, rfl⟩
theorem rcCk_ok {r : Rc} (h1 : nameCk r.name = 0) (h2 : 0 ≤ r.ty) (h3 : r.ty ≤ 65535) (h4 : r.cl = 1) (h5 : ¬ hasBad (hasT r.ty) r.dt) (h6 : ¬ adBad r.ty (hasT r.ty) r.dt) (h7 : numsOk (hasT r.ty) r.dt) (h8 : dn r.dt = 0) (h9 : sizeD r.ty r.dt ≤ 65535) : rcCk r = 0 := by
  have hd : dataCk r.ty r.dt = 0 := by rw [dataCk, if_neg (by omega), if_neg h5, if_neg h6, if_pos h7, h8]
  have hs : sixteenI r.ty = true := by simp [sixteenI, h2, h3]
  have hs2 : sixteenI r.cl = true := by rw [h4]; decide
  rw [rcCk, if_neg (by omega), if_neg (by rw [hs, hs2]; simp), dataCk2, if_neg (by omega), hd]
theorem nameCk_nil : nameCk [] = 0 := by decide
theorem recs_ok {e : En} {owner : Str} {held : List Ad} {t : Int} {r : Rc} (h : r ∈ recs e owner held t) : rcCk r = 0 ∧ r.name = owner ∧ r.ty = t ∧ r.cl = 1 ∧ r.ttl = e.ttl := by
  unfold recs at h
  split at h
  · cases h
  rename_i h0
  have hc : entCk e = 0 := by
    by_cases q : entCk e = 0
    · exact q
    · exact absurd (.inl q) h0
  have ho : nameCk owner = 0 := by
    by_cases q : nameCk owner = 0
    · exact q
    · exact absurd (.inr q) h0
  have hol := (nameCk_zero.1 ho).1
  split at h
  · rename_i ht
    obtain ⟨a, ha, hb, rfl⟩ := mem_each h
    have hck := entAd_ck a ha
    simp only [decide_eq_true_eq] at hb
    have hh : hasT t = ⟨true, false, false, false, false, 0, 0⟩ := by rw [hasT, if_pos ht]
    refine ⟨rcCk_ok ho (by show 0 ≤ t; omega) (by show t ≤ _; omega) rfl ?_ ?_ ?_ ?_ ?_, rfl, rfl, rfl, rfl⟩
    · show ¬ hasBad (hasT t) _
      rw [hh]; simp [hasBad, dt0]
    · show ¬ adBad t (hasT t) _
      rw [hh]; simp [adBad, hck, hb]
    · show numsOk (hasT t) _
      rw [hh]
      intro k hk
      match k, hk with
      | 0, _ => simp [numOk, numD, dt0]
      | 1, _ => simp [numOk, numD, dt0]
      | 2, _ => simp [numOk, numD, dt0]
      | 3, _ => simp [numOk, numD, dt0]
      | 4, _ => simp [numOk, numD, dt0]
      | n + 5, hk => omega
    · simp [dn, dt0, nameCk_nil]
    · show sizeD t _ ≤ _
      rw [sizeD, hh]
      simp only [dt0, List.length_nil]
      repeat' split
      all_goals simp
  rename_i ht1
  split at h
  · rename_i ht
    subst ht
    obtain ⟨p, hp, hb, rfl⟩ := mem_each h
    have hpp := ck_ports hc p hp
    have hh : hasT 33 = ⟨false, true, false, false, false, 3, 2⟩ := rfl
    have hw : IntKind.u32.wrap p = p := wrap_u32 (by omega) (by omega)
    refine ⟨rcCk_ok ho (by show (0 : Int) ≤ 33; omega) (by show (33 : Int) ≤ _; omega) rfl ?_ ?_ ?_ ?_ ?_, rfl, rfl, rfl, rfl⟩
    · show ¬ hasBad (hasT 33) _
      rw [hh]; simp [hasBad, dt0, ad0]
    · show ¬ adBad 33 (hasT 33) _
      rw [hh]; simp [adBad]
    · show numsOk (hasT 33) _
      rw [hh]
      intro k hk
      match k, hk with
      | 0, _ => simp [numOk, numD, dt0]
      | 1, _ => simp [numOk, numD, dt0]
      | 2, _ => simp only [numOk, numD, hw]; omega
      | 3, _ => simp [numOk, numD, dt0]
      | 4, _ => simp [numOk, numD, dt0]
      | n + 5, hk => omega
    · simp [dn, dt0, ho, nameCk_nil]
    · show sizeD 33 _ ≤ _
      rw [sizeD, hh]
      simp [dt0]
      omega
  rename_i ht2
  split at h
  · rename_i ht
    subst ht
    obtain ⟨a, ha, hb, rfl⟩ := mem_each h
    simp only [List.mem_singleton] at ha
    subst ha
    simp only [decide_eq_true_eq] at hb
    have hal := (ck_alias hc hb).1
    have hall := (nameCk_zero.1 hal).1
    have hh : hasT 5 = ⟨false, true, false, false, false, 0, 0⟩ := rfl
    refine ⟨rcCk_ok ho (by show (0 : Int) ≤ 5; omega) (by show (5 : Int) ≤ _; omega) rfl ?_ ?_ ?_ ?_ ?_, rfl, rfl, rfl, rfl⟩
    · show ¬ hasBad (hasT 5) _
      rw [hh]; simp [hasBad, dt0, ad0]
    · show ¬ adBad 5 (hasT 5) _
      rw [hh]; simp [adBad]
    · show numsOk (hasT 5) _
      rw [hh]
      intro k hk
      match k, hk with
      | 0, _ => simp [numOk, numD, dt0]
      | 1, _ => simp [numOk, numD, dt0]
      | 2, _ => simp [numOk, numD, dt0]
      | 3, _ => simp [numOk, numD, dt0]
      | 4, _ => simp [numOk, numD, dt0]
      | n + 5, hk => omega
    · simp [dn, dt0, hal, nameCk_nil]
    · show sizeD 5 _ ≤ _
      rw [sizeD, hh]
      simp [dt0]
      omega
  · cases h
theorem recs_pos {e : En} {owner : Str} {held : List Ad} {t : Int} {r : Rc} (h : r ∈ recs e owner held t) : 0 ≤ e.ttl → 0 ≤ r.ttl := fun h2 => by rw [(recs_ok h).2.2.2.2]; exact h2
theorem entAd_mem {e : En} {held : List Ad} {a : Ad} (h : a ∈ entAd e held) : a ∈ e.addrs ∨ a ∈ held := by
  unfold entAd at h
  split at h
  · cases h
  · split at h
    · exact .inl h
    · split at h
      · cases h
      · exact .inr (List.mem_filter.1 h).1
theorem recs_wf {e : En} {owner : Str} {held : List Ad} {t : Int} {r : Rc} (h1 : ∀ a ∈ e.addrs, 0 ≤ a.lo) (h2 : ∀ a ∈ held, 0 ≤ a.lo) (h : r ∈ recs e owner held t) : 0 ≤ r.dt.ad.lo ∧ r.dt.name.length + r.dt.mail.length + r.dt.raw.length ≤ owner.length + e.alias.length := by
  unfold recs at h
  split at h
  · cases h
  split at h
  · obtain ⟨a, ha, hb, rfl⟩ := mem_each h
    exact ⟨(entAd_mem ha).elim (h1 a) (h2 a), by simp [dt0]⟩
  split at h
  · obtain ⟨a, ha, hb, rfl⟩ := mem_each h
    exact ⟨by simp [dt0, ad0], by simp [dt0]⟩
  split at h
  · obtain ⟨a, ha, hb, rfl⟩ := mem_each h
    simp only [List.mem_singleton] at ha
    subst ha
    exact ⟨by simp [dt0, ad0], by simp [dt0]⟩
  · cases h
theorem recs_nil1 {e : En} {owner : Str} {held : List Ad} {t : Int} (h : entCk e ≠ 0 ∨ nameCk owner ≠ 0) : recs e owner held t = [] := if_pos h
theorem each_len {α : Type} (D : α → Dt) (B : α → Bool) (r : Rc) (l : List α) : (each D B r l).length = (l.filter B).length := by rw [each, List.length_map]
theorem recs_len (e : En) (owner : Str) (held : List Ad) (t : Int) : (recs e owner held t).length ≤ e.addrs.length + held.length + e.ports.length + 1 := by
  have h1 := entAd_le e held
  unfold recs
  split
  · simp
  · split
    · rw [each_len]
      have := List.length_filter_le (fun a : Ad => decide (a.six = decide (t = 28))) (entAd e held); omega
    · split
      · rw [each_len]
        have := List.length_filter_le (fun _ : Int => true) e.ports; omega
      · split
        · rw [each_len]
          have := List.length_filter_le (fun _ : Str => decide (e.kind = 3)) [e.alias]; simp at this ⊢; omega
        · simp
theorem six_len2 (l : List Ad) : (l.filter fun a => decide (a.six = false)).length + (l.filter fun a => decide (a.six = true)).length = l.length := by
  induction l with
  | nil => rfl
  | cons a l ih =>
    cases h : a.six
    · rw [List.filter_cons_of_pos (by simp [h]), List.filter_cons_of_neg (by simp [h])]; simp only [List.length_cons]; omega
    · rw [List.filter_cons_of_neg (by simp [h]), List.filter_cons_of_pos (by simp [h])]; simp only [List.length_cons]; omega
theorem six_len (l : List Ad) : (l.filter fun a => decide (a.six = decide ((1 : Int) = 28))).length + (l.filter fun a => decide (a.six = decide ((28 : Int) = 28))).length = l.length := six_len2 l
theorem recs_46 {e : En} {owner : Str} {held : List Ad} (h1 : entCk e = 0) (h2 : nameCk owner = 0) : (recs e owner held 1).length + (recs e owner held 28).length = (entAd e held).length := by
  rw [recs_eq (t := 1) (by omega) (by omega), recs_eq (t := 28) (by omega) (by omega), if_pos (by decide), if_pos (by decide), each_len, each_len]
  exact six_len _
theorem recs_srv {e : En} {owner : Str} {held : List Ad} (h1 : entCk e = 0) (h2 : nameCk owner = 0) : (recs e owner held 33).length = e.ports.length := by
  rw [recs_eq (t := 33) (by omega) (by omega), if_neg (by decide), if_pos (by decide), each_len]; simp
theorem recs_cname {e : En} {owner : Str} {held : List Ad} (h1 : entCk e = 0) (h2 : nameCk owner = 0) : (recs e owner held 5).length = if e.kind = 3 then 1 else 0 := by
  rw [recs_eq (t := 5) (by omega) (by omega), if_neg (by decide), if_neg (by decide), if_pos (by decide), each_len]
  by_cases h : e.kind = 3
  · simp [h]
  · simp [h]
theorem recs_txt {e : En} {owner : Str} {held : List Ad} : recs e owner held 16 = [] := by
  by_cases h : entCk e ≠ 0 ∨ nameCk owner ≠ 0
  · exact if_pos h
  · rw [recs, if_neg h, if_neg (by decide), if_neg (by decide), if_neg (by decide)]
theorem light_le {e : En} (h : lightE e = true) : e.host.length ≤ 300 ∧ e.alias.length ≤ 300 ∧ e.cluster.length ≤ 300 ∧ e.addrs.length ≤ 20 ∧ e.ports.length ≤ 20 := by
  simp only [lightE, Bool.and_eq_true, decide_eq_true_eq] at h
  exact ⟨h.1.1.1.1, h.1.1.1.2, h.1.1.2, h.1.2, h.2⟩

end Go.Proofs.YtckfjfnkombelaaGreat
