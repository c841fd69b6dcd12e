/- an index finds what the reference finds: the plain law -/
import Derived.Test.YtckfjfnkombelaaIbQF
namespace Go.Proofs.Ytckfjfnkombelaa
open Go.RowKit Go.Shelf
set_option linter.unusedVariables false
set_option linter.unusedSimpArgs false

theorem pars_mem : ∀ (f : Nat) (c : Str), c.length ≤ f → nameCk c = 0 → ∀ p, (p ∈ pars c ↔ ∃ pre s, pre ≠ [] ∧ labs c = pre ++ s ∧ p = encn s)
  | 0, c, hf, hc, p => by
    have : c = [] := List.length_eq_zero_iff.1 (by omega)
    subst this
    have e : labs [] = [] := rfl
    constructor
    · intro h; cases h
    · rintro ⟨pre, s, h1, h2, _⟩
      rw [e] at h2
      exact absurd (List.append_eq_nil_iff.1 h2.symm).1 h1
  | f + 1, c, hf, hc, p => by
    by_cases hn : c = []
    · subst hn
      have e : labs [] = [] := rfl
      constructor
      · intro h; cases h
      · rintro ⟨pre, s, h1, h2, _⟩
        rw [e] at h2
        exact absurd (List.append_eq_nil_iff.1 h2.symm).1 h1
    · have hcut := cutOk_of hc hn
      have hr := nameCk_rst hc hcut
      have hl := rst_lt hcut
      have ih := pars_mem f (rst c) (by omega) hr p
      have e1 : pars c = rst c :: pars (rst c) := by rw [pars_eq, if_pos hcut]
      have e2 : labs c = lab c :: labs (rst c) := by rw [labs_eq, if_pos hcut]
      have e3 : encn (labs (rst c)) = rst c := okN_encn _ (nameCk_zero.1 hr).2
      rw [e1, e2, List.mem_cons, ih]
      constructor
      · rintro (rfl | ⟨pre, s, h1, h2, h3⟩)
        · exact ⟨[lab c], labs (rst c), by simp, rfl, e3.symm⟩
        · exact ⟨lab c :: pre, s, by simp, by rw [h2]; rfl, h3⟩
      · rintro ⟨pre, s, h1, h2, h3⟩
        cases pre with
        | nil => exact absurd rfl h1
        | cons a pre =>
          obtain ⟨rfl, h4⟩ := List.cons.inj h2
          by_cases hp : pre = []
          · subst hp
            left
            rw [h3, ← e3]
            congr 1
            simpa using h4.symm
          · exact .inr ⟨pre, s, hp, h4, h3⟩
theorem lowB_1 {a : UInt8} (h : lowB a = 1) : a = 1 := by
  unfold lowB at h
  split at h
  · rename_i h1
    have := congrArg UInt8.toNat h
    simp at this
    omega
  · exact h
theorem lowB_42 {a : UInt8} (h : lowB a = 42) : a = 42 := by
  unfold lowB at h
  split at h
  · rename_i h1
    have := congrArg UInt8.toNat h
    simp at this
    omega
  · exact h
theorem low_wild (t : Str) : lowS (1 :: 42 :: t) = [1, 42] ++ lowS t := by
  have h1 : lowB 1 = 1 := by decide
  have h2 : lowB 42 = 42 := by decide
  simp [lowS, h1, h2]
theorem wild_parts {t : Str} (h : nameCk (1 :: 42 :: t) = 0) : cutOk (1 :: 42 :: t) = true ∧ rst (1 :: 42 :: t) = t ∧ nameCk t = 0 ∧ parN (1 :: 42 :: t) = t ∧ labsN (1 :: 42 :: t) = [42] :: labsN t := by
  have hc : cutOk (1 :: 42 :: t) = true := cutOk_of h (by simp)
  have hr : rst (1 :: 42 :: t) = t := rfl
  have hn := nameCk_rst h hc
  rw [hr] at hn
  refine ⟨hc, hr, hn, ?_, ?_⟩
  · rw [parN_yes (parB_yes ⟨h, by simp⟩), hr]
  · rw [labsN, if_pos h, labs_eq, if_pos hc, hr, labsN, if_pos hn]; rfl
/-- A wildcard matches just if it is, folded, the star ahead of what lies above the name. -/
theorem match_iff {w n : Str} (hw : nameCk w = 0) (hn : nameCk n = 0) : matchN w n = true ↔ ∃ p ∈ pars (foldN n), foldN w = [1, 42] ++ p ∧ (labsN w).length = (labs p).length + 1 ∧ nameCk p = 0 := by
  have hf := nameCk_fold hn
  have hlf : labs (foldN n) = (labsN n).map lowS := by
    have := labsN_fold hn
    rwa [labsN, if_pos hf] at this
  constructor
  · intro h
    simp only [matchN, Bool.and_eq_true, decide_eq_true_eq] at h
    obtain ⟨⟨⟨h1, _⟩, h3⟩, h4⟩ := h
    simp only [wildN, Bool.and_eq_true, decide_eq_true_eq] at h1
    obtain ⟨t, rfl⟩ := h1.2
    have hwp := wild_parts (t := t) hw
    obtain ⟨_, _, ht, hp, hl⟩ := hwp
    rw [show [1, 42] ++ t = 1 :: 42 :: t from rfl] at *
    rw [hp] at h3 h4
    simp only [underN, Bool.and_eq_true, decide_eq_true_eq] at h3
    obtain ⟨pre, e⟩ := h3.2
    have e4 : labsN t = labs t := if_pos ht
    have e5 : encn ((labsN t).map lowS) = foldN t := by rw [e4, encn_low _ (labs_ok t), okN_encn t (nameCk_zero.1 ht).2, foldN_eq ht]
    have hft := nameCk_fold ht
    refine ⟨foldN t, ?_, ?_, ?_, hft⟩
    · rw [pars_mem _ _ (Nat.le_refl _) hf]
      refine ⟨pre, (labsN t).map lowS, ?_, by rw [hlf, e], e5.symm⟩
      rintro rfl
      have := congrArg List.length e
      simp at this
      omega
    · rw [foldN_eq hw, low_wild, foldN_eq ht]
    · have := labsN_fold ht
      rw [labsN, if_pos hft] at this
      rw [hl, this]; simp
  · rintro ⟨p, hp, hwp, _, _⟩
    obtain ⟨pre, s, hpre, hs, rfl⟩ := (pars_mem _ _ (Nat.le_refl _) hf p).1 hp
    rw [foldN_eq hw] at hwp
    have hok : ∀ q ∈ s, 1 ≤ q.length ∧ q.length ≤ 63 := fun q hq => labs_ok (foldN n) q (by rw [hs]; exact List.mem_append_right _ hq)
    match w, hw, hwp with
    | [], _, h => simp [lowS] at h
    | [a], _, h => simp [lowS] at h
    | a :: b :: t, hw, h =>
      simp only [lowS, List.map_cons, List.cons_append, List.nil_append, List.cons.injEq] at h
      obtain ⟨h1, h2, h3⟩ := h
      have ha := lowB_1 h1
      have hb := lowB_42 h2
      subst ha; subst hb
      obtain ⟨_, _, ht, hpn, hl⟩ := wild_parts hw
      have hlt : (labsN t).map lowS = s := by
        rw [← labsN_fold ht, labsN, if_pos (nameCk_fold ht), foldN_eq ht, show lowS t = encn s from h3]
        exact (okN_of_encn s hok).2
      have hle : (labsN n).length = pre.length + s.length := by
        have := congrArg List.length hs
        rw [hlf] at this; simpa using this
      have hpl : 0 < pre.length := List.length_pos_iff.2 hpre
      have hsl : s.length = (labsN t).length := by rw [← hlt]; simp
      have hu : underN n t = true := by
        rw [underN, decide_eq_true hn, decide_eq_true ht, decide_eq_true (by rw [hlt, ← hlf, hs]; exact List.suffix_append _ _)]; rfl
      have hwi : wildN (1 :: 42 :: t) = true := by
        have hp9 : ([1, 42] : Str) <+: (1 :: 42 :: t) := ⟨t, rfl⟩
        rw [wildN, decide_eq_true hw, decide_eq_true hp9]; rfl
      rw [matchN, hwi, decide_eq_true hn, hpn, hu, decide_eq_true (by omega)]; rfl
/-- How many labels lie above. -/
theorem pars_at : ∀ (f : Nat) (c : Str), c.length ≤ f → nameCk c = 0 → ∀ (i : Nat) (p : Str), (pars c)[i]? = some p → (labs p).length + 1 + i = (labs c).length
  | 0, c, hf, hc, i, p, h => by
    have : c = [] := List.length_eq_zero_iff.1 (by omega)
    subst this
    cases h
  | f + 1, c, hf, hc, i, p, h => by
    by_cases hn : c = []
    · subst hn; cases h
    · have hcut := cutOk_of hc hn
      have hr := nameCk_rst hc hcut
      have hl := rst_lt hcut
      have e1 : pars c = rst c :: pars (rst c) := by rw [pars_eq, if_pos hcut]
      have e2 : labs c = lab c :: labs (rst c) := by rw [labs_eq, if_pos hcut]
      rw [e1] at h
      rw [e2]
      cases i with
      | zero =>
        simp at h; subst h; simp
      | succ i =>
        have := pars_at f (rst c) (by omega) hr i p (by simpa using h)
        simp; omega
def lookE (es : List En) (key : Str) : Option En := es.find? fun e => decide (foldN e.host = key)
def findE (es : List En) (n : Str) : Option En := if nameCk n ≠ 0 then none else (lookE es (foldN n)).or ((pars (foldN n)).findSome? fun p => lookE es ([1, 42] ++ p))
theorem findSome_map {α β γ : Type} (f : α → Option β) (g : β → γ) : ∀ l : List α, (l.findSome? f).map g = l.findSome? fun a => (f a).map g
  | [] => rfl
  | a :: r => by
    rw [List.findSome?_cons, List.findSome?_cons]
    cases f a with
    | none => exact findSome_map f g r
    | some b => rfl
theorem hm_look {m : List (Str × Le)} {l : List Le} (h : HmOk m l) (key : Str) : (lkp m key).map (·.e) = lookE (l.map (·.e)) key := by
  rw [h key, lookE, List.find?_map]; rfl
theorem find_E {m : List (Str × Le)} {l : List Le} (h : HmOk m l) (n : Str) : (findI m n).map (·.e) = findE (l.map (·.e)) n := by
  unfold findI findE
  split
  · rfl
  · rw [← hm_look h]
    have : ∀ o p : Option Le, (o.or p).map (·.e) = (o.map (·.e)).or (p.map (·.e)) := fun o p => by cases o <;> rfl
    rw [this, findSome_map]
    congr 2
    funext p
    exact hm_look h _
/-- Hosts that may be, unlike one another. -/
structure HostsOk (es : List En) : Prop where
  ck : ∀ e ∈ es, nameCk e.host = 0
  dis : ∀ e ∈ es, ∀ f ∈ es, foldN e.host = foldN f.host → e = f
theorem look_some {es : List En} (h : HostsOk es) {e : En} (he : e ∈ es) : lookE es (foldN e.host) = some e := by
  cases hl : lookE es (foldN e.host) with
  | none =>
    have := List.find?_eq_none.1 hl e he
    simp at this
  | some f =>
    have h1 := List.mem_of_find?_eq_some hl
    have h2 := List.find?_some hl
    simp only [decide_eq_true_eq] at h2
    rw [h.dis f h1 e he h2]
theorem look_mem {es : List En} {key : Str} {e : En} (h : lookE es key = some e) : e ∈ es ∧ foldN e.host = key := by
  have h1 := List.mem_of_find?_eq_some h
  have h2 := List.find?_some h
  simp only [decide_eq_true_eq] at h2
  exact ⟨h1, h2⟩
def RefE (es : List En) (n : Str) : Option En → Prop
  | none => (∀ e ∈ es, same2 e.host n = false) ∧ ∀ e ∈ es, matchN e.host n = false
  | some y => y ∈ es ∧ (same2 y.host n = true ∨ ((∀ e ∈ es, same2 e.host n = false) ∧ matchN y.host n = true ∧ ∀ e ∈ es, matchN e.host n = true → (labsN e.host).length ≤ (labsN y.host).length))
theorem same2_iff {a b : Str} (ha : nameCk a = 0) (hb : nameCk b = 0) : same2 a b = true ↔ foldN a = foldN b := by
  simp [same2, ha, hb]
theorem ref_find {es : List En} (h : HostsOk es) {n : Str} {r : Option En} (hr : RefE es n r) : findE es n = r := by
  by_cases hn : nameCk n ≠ 0
  · rw [findE, if_pos hn]
    cases r with
    | none => rfl
    | some y =>
      exfalso
      rcases hr.2 with h1 | h1
      · simp only [same2, Bool.and_eq_true, decide_eq_true_eq] at h1; exact hn h1.1.2
      · have h2 := h1.2.1
        simp only [matchN, Bool.and_eq_true, decide_eq_true_eq] at h2; exact hn h2.1.1.2
  · have hn0 : nameCk n = 0 := by omega
    have hf := nameCk_fold hn0
    rw [findE, if_neg hn]
    have nosame : (∀ e ∈ es, same2 e.host n = false) → lookE es (foldN n) = none := fun hs => by
      cases hl : lookE es (foldN n) with
      | none => rfl
      | some f =>
        obtain ⟨h1, h2⟩ := look_mem hl
        have h3 := hs f h1
        rw [(same2_iff (h.ck f h1) hn0).2 h2] at h3
        cases h3
    have onp : ∀ p ∈ pars (foldN n), ∀ f, lookE es ([1, 42] ++ p) = some f → f ∈ es ∧ matchN f.host n = true ∧ (labsN f.host).length = (labs p).length + 1 := fun p hp f hl => by
      obtain ⟨h1, h2⟩ := look_mem hl
      have hfc := h.ck f h1
      have hm : matchN f.host n = true := by
        obtain ⟨pre, s, hpre, hs, rfl⟩ := (pars_mem _ _ (Nat.le_refl _) hf p).1 hp
        have hok : ∀ q ∈ s, 1 ≤ q.length ∧ q.length ≤ 63 := fun q hq => labs_ok (foldN n) q (by rw [hs]; exact List.mem_append_right _ hq)
        refine (match_iff hfc hn0).2 ⟨encn s, hp, h2, ?_, ?_⟩
        · have e1 := labsN_fold hfc
          rw [h2] at e1
          have hc2 : nameCk ([1, 42] ++ encn s) = 0 := by rw [← h2]; exact nameCk_fold hfc
          have e2 := (wild_parts (t := encn s) hc2).2.2.2.2
          rw [show [1, 42] ++ encn s = 1 :: 42 :: encn s from rfl, e2] at e1
          have e3 := congrArg List.length e1
          have e4 : labsN (encn s) = labs (encn s) := if_pos (wild_parts (t := encn s) hc2).2.2.1
          rw [e4] at e3
          simp at e3; omega
        · have hc2 : nameCk ([1, 42] ++ encn s) = 0 := by rw [← h2]; exact nameCk_fold hfc
          exact (wild_parts (t := encn s) hc2).2.2.1
      obtain ⟨p2, hp2, hw2, hl2, _⟩ := (match_iff hfc hn0).1 hm
      have : p2 = p := List.append_cancel_left (hw2.symm.trans h2)
      subst this
      exact ⟨h1, hm, hl2⟩
    cases r with
    | none =>
      rw [nosame hr.1]
      show (pars (foldN n)).findSome? _ = none
      rw [List.findSome?_eq_none_iff]
      intro p hp
      cases hl : lookE es ([1, 42] ++ p) with
      | none => rfl
      | some f =>
        obtain ⟨h1, h2, _⟩ := onp p hp f hl
        rw [hr.2 f h1] at h2; cases h2
    | some y =>
      obtain ⟨hy, h1⟩ := hr
      rcases h1 with h1 | ⟨h1, h2, h3⟩
      · rw [← (same2_iff (h.ck y hy) hn0).1 h1, look_some h hy]; rfl
      · rw [nosame h1]
        show (pars (foldN n)).findSome? _ = some y
        obtain ⟨p, hp, hwp, hlp, _⟩ := (match_iff (h.ck y hy) hn0).1 h2
        have hyl : lookE es ([1, 42] ++ p) = some y := by rw [← hwp]; exact look_some h hy
        cases hfs : (pars (foldN n)).findSome? (fun p => lookE es ([1, 42] ++ p)) with
        | none =>
          have := List.findSome?_eq_none_iff.1 hfs p hp
          rw [hyl] at this; cases this
        | some z =>
          obtain ⟨l1, q, l2, e, hq, hno⟩ := List.findSome?_eq_some_iff.1 hfs
          have hqm : q ∈ pars (foldN n) := by rw [e]; simp
          obtain ⟨hz1, hz2, hz3⟩ := onp q hqm z hq
          have hle := h3 z hz1 hz2
          have hqi : (pars (foldN n))[l1.length]? = some q := by rw [e]; simp
          have q1 := pars_at _ _ (Nat.le_refl _) hf _ _ hqi
          obtain ⟨j, hj, rfl⟩ := List.mem_iff_getElem.1 hp
          have q2 := pars_at _ _ (Nat.le_refl _) hf j _ (List.getElem?_eq_getElem hj)
          have hjl : ¬ j < l1.length := fun hlt => by
            have h9 := hno ((pars (foldN n))[j]) (by
              have : (pars (foldN n))[j]? = l1[j]? := by rw [e, List.getElem?_append_left hlt]
              rw [List.getElem?_eq_getElem hj, List.getElem?_eq_getElem hlt] at this
              rw [Option.some.inj this]; exact List.getElem_mem hlt)
            rw [hyl] at h9; cases h9
          have hje : j = l1.length := by omega
          have e9 : (pars (foldN n))[j]? = some q := by rw [hje]; exact hqi
          have hqe : q = (pars (foldN n))[j] := (Option.some.inj ((List.getElem?_eq_getElem hj).symm.trans e9)).symm
          rw [← hqe, hq] at hyl
          exact hyl
/-- A table that may be. -/
theorem tab_zero {v : Int} {l : List Le} (h : tabCk v l = 0) : (∀ x ∈ l, entCk x.e = 0) ∧ Rises l ∧ l.length ≤ 256 ∧ 0 ≤ v ∧ v ≤ 2147483647 := by
  unfold tabCk at h
  split at h
  · omega
  · split at h
    · omega
    · split at h
      · omega
      · rename_i h1 h2 h3
        refine ⟨entsCk_zero.1 (by omega), ?_, by omega, ?_, ?_⟩
        · exact Decidable.not_not.1 (fun q => h3 (.inl q))
        · by_cases q : 0 ≤ v
          · exact q
          · exact absurd (.inr (.inl (by omega))) h3
        · by_cases q : v ≤ 2147483647
          · exact q
          · exact absurd (.inr (.inr (by omega))) h3
theorem rises_far {l : List Le} (h : Rises l) (i : Nat) : ∀ d, i + d + 1 < l.length → cmpN (hst l i) (hst l (i + d + 1)) < 0
  | 0, hd => by
    have := h (i + 1) (by omega) hd
    rw [cmpN_anti (l.getD (i + 1 - 1) le0).e.host] at this
    show cmpN (l.getD i le0).e.host (l.getD (i + 1) le0).e.host < 0
    rw [Nat.add_sub_cancel] at this
    omega
  | d + 1, hd => by
    have ih := rises_far h i d (by omega)
    have := h (i + (d + 1) + 1) (by omega) hd
    rw [cmpN_anti (l.getD (i + (d + 1) + 1 - 1) le0).e.host] at this
    rw [Nat.add_sub_cancel] at this
    exact cmpN_trans ih (by show cmpN (l.getD (i + (d + 1)) le0).e.host (l.getD (i + (d + 1) + 1) le0).e.host < 0; omega)
theorem tab_hosts {v : Int} {l : List Le} (h : tabCk v l = 0) : HostsOk (l.map (·.e)) := by
  obtain ⟨h1, h2, _⟩ := tab_zero h
  have ck : ∀ e ∈ l.map (·.e), nameCk e.host = 0 := fun e he => by
    obtain ⟨x, hx, rfl⟩ := List.mem_map.1 he
    exact ck_host (h1 x hx)
  have at_ : ∀ i, i < l.length → l[i]? = some (l.getD i le0) := fun i hi => by rw [List.getD_eq_getElem?_getD, List.getElem?_eq_getElem hi]; rfl
  have key : ∀ i j, i < j → j < l.length → foldN (hst l i) ≠ foldN (hst l j) := fun i j hij hj e => by
    obtain ⟨d, rfl⟩ : ∃ d, j = i + d + 1 := ⟨j - i - 1, by omega⟩
    have h3 := rises_far h2 i d hj
    have c1 : nameCk (hst l i) = 0 := ck_host (h1 _ (mem_getD (by omega)))
    have c2 : nameCk (hst l (i + d + 1)) = 0 := ck_host (h1 _ (mem_getD hj))
    rw [(cmpN_zero c1 c2).2 e] at h3
    omega
  refine ⟨ck, fun e he f hf hef => ?_⟩
  obtain ⟨x, hx, rfl⟩ := List.mem_map.1 he
  obtain ⟨y, hy, rfl⟩ := List.mem_map.1 hf
  obtain ⟨i, hi, rfl⟩ := List.mem_iff_getElem.1 hx
  obtain ⟨j, hj, rfl⟩ := List.mem_iff_getElem.1 hy
  have gi : (l.getD i le0) = l[i] := by rw [List.getD_eq_getElem?_getD, List.getElem?_eq_getElem hi]; rfl
  have gj : (l.getD j le0) = l[j] := by rw [List.getD_eq_getElem?_getD, List.getElem?_eq_getElem hj]; rfl
  rcases Nat.lt_trichotomy i j with q | q | q
  · exact absurd (by rw [hst, hst, gi, gj]; exact hef) (key i j q hj)
  · subst q; rfl
  · exact absurd (by rw [hst, hst, gi, gj]; exact hef.symm) (key j i q hi)
theorem ref_E {l : List Le} {n : Str} {r : Option Le} (h : RefSpec l n r) : RefE (l.map (·.e)) n (r.map (·.e)) := by
  cases r with
  | none => exact ⟨by simpa using h.1, by simpa using h.2⟩
  | some y =>
    obtain ⟨h1, h2⟩ := h
    refine ⟨List.mem_map.2 ⟨y, h1, rfl⟩, h2.imp id fun ⟨q1, q2, q3⟩ => ⟨by simpa using q1, q2, by simpa using q3⟩⟩
/-- The index finds what the reference finds. -/
theorem find_ref {v : Int} {l : List Le} {x : Ixd} (hx : IxOk l x) (h : tabCk v l = 0) {n : Str} {r : Option Le} (hr : RefSpec l n r) : (findI x.hm n).map (·.e) = r.map (·.e) := by
  rw [find_E hx.hm, hx.es]
  exact ref_find (tab_hosts h) (ref_E hr)
theorem find_is {v : Int} {l : List Le} {x : Ixd} (hx : IxOk l x) (h : tabCk v l = 0) {n : Str} {r : Option Le} (hr : RefSpec l n r) : r.isSome = (findI x.hm n).isSome := by
  have := congrArg Option.isSome (find_ref hx h hr)
  simpa using this.symm

end Go.Proofs.Ytckfjfnkombelaa
