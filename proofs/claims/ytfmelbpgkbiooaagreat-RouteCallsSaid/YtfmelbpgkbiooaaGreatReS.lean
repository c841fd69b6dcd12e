import Derived.Test.YtfmelbpgkbiooaaGreatRdS
import Derived.Test.YtfmelbpgkbiooaaGreatJkS
/- the laws of routes: what is held, and all routes -/
namespace Go.Proofs.YtfmelbpgkbiooaaGreat
open Go.RowKit Go.Shelf
set_option linter.unusedVariables false
set_option linter.unusedSimpArgs false

theorem ent_11 : Enters Tryz.prog 11 := enters_of Tryz.func11 (by kernel_rfl) rfl
theorem ent_16 : Enters Tryz.prog 16 := enters_of Tryz.func16 (by kernel_rfl) rfl
theorem upd_keys {α β : Type} [DecidableEq α] (m : List (α × β)) (a : α) (v : β) (b : α) : b ∈ (upd m a v).map (·.1) ↔ b ∈ m.map (·.1) ∨ b = a := by
  induction m with
  | nil => simp [upd]
  | cons p q ih =>
    obtain ⟨c, u⟩ := p
    simp only [upd]
    split
    · rename_i e; subst e; simp only [List.map_cons, List.mem_cons]
      constructor
      · exact fun h => .inl h
      · rintro (h | rfl)
        · exact h
        · exact .inl rfl
    · simp only [List.map_cons, List.mem_cons]
      rw [ih]
      constructor
      · rintro (h | h | h)
        · exact .inl (.inl h)
        · exact .inl (.inr h)
        · exact .inr h
      · rintro ((h | h) | h)
        · exact .inl h
        · exact .inr (.inl h)
        · exact .inr (.inr h)
theorem upd_nd {α β : Type} [DecidableEq α] (m : List (α × β)) (a : α) (v : β) (h : (m.map (·.1)).Nodup) : ((upd m a v).map (·.1)).Nodup := by
  induction m with
  | nil => simp [upd]
  | cons p q ih =>
    obtain ⟨c, u⟩ := p
    rw [List.map_cons, List.nodup_cons] at h
    simp only [upd]
    split
    · rw [List.map_cons, List.nodup_cons]; exact h
    · rename_i e
      rw [List.map_cons, List.nodup_cons]
      refine ⟨fun hm => ?_, ih h.2⟩
      rcases (upd_keys q a v c).1 hm with hm | hm
      · exact h.1 hm
      · exact e hm.symm
theorem upd_mem {α β : Type} [DecidableEq α] {m : List (α × β)} {a : α} {v : β} {q : α × β} (h : q ∈ upd m a v) : q ∈ m ∨ q = (a, v) := by
  induction m with
  | nil => exact .inr (List.mem_singleton.1 h)
  | cons p r ih =>
    obtain ⟨c, u⟩ := p
    simp only [upd] at h
    split at h
    · rename_i e; subst e
      rcases List.mem_cons.1 h with h | h
      · exact .inr h
      · exact .inl (.tail _ h)
    · rcases List.mem_cons.1 h with h | h
      · exact .inl (h ▸ .head _)
      · rcases ih h with h | h
        · exact .inl (.tail _ h)
        · exact .inr h
structure AmI (x : Ixd) (K : Ad → Prop) (M : List (Ad × Rt)) : Prop where
  nd : (M.map (·.1)).Nodup
  keys : ∀ a, a ∈ M.map (·.1) ↔ K a
  vals : ∀ q ∈ M, q.2 = rtI x q.1
theorem addM_ok {x : Ixd} : ∀ {al : List Ad} {M : List (Ad × Rt)} {K : Ad → Prop}, AmI x K M → AmI x (fun a => K a ∨ a ∈ al) (addM x M al)
  | [], M, K, h => ⟨h.nd, fun a => by rw [show addM x M [] = M from rfl, h.keys]; simp, h.vals⟩
  | b :: r, M, K, h => by
    have h1 : AmI x (fun a => K a ∨ a = b) (upd M b (rtI x b)) := ⟨upd_nd _ _ _ h.nd, fun a => by rw [upd_keys, h.keys], fun q hq => by
      rcases upd_mem hq with hq | rfl
      · exact h.vals q hq
      · rfl⟩
    have h2 := addM_ok (al := r) h1
    refine ⟨h2.nd, fun a => (h2.keys a).trans ?_, h2.vals⟩
    rw [List.mem_cons, or_assoc]
theorem allM_ok (x : Ixd) (l : List Le) : AmI x (fun a => ∃ e ∈ l, a ∈ adsI x e.e.host) (allM x l) := by
  have key : ∀ (l : List Le) (M : List (Ad × Rt)) (K : Ad → Prop), AmI x K M → AmI x (fun a => K a ∨ ∃ e ∈ l, a ∈ adsI x e.e.host) (l.foldl (fun m e => addM x m (adsI x e.e.host)) M) := by
    intro l
    induction l with
    | nil => intro M K h; exact ⟨h.nd, fun a => by rw [List.foldl_nil, h.keys]; simp, h.vals⟩
    | cons e r ih =>
      intro M K h
      have h1 := ih _ _ (addM_ok (al := adsI x e.e.host) h)
      rw [List.foldl_cons]
      refine ⟨h1.nd, fun a => (h1.keys a).trans ?_, h1.vals⟩
      constructor
      · rintro ((h | h) | ⟨y, hy, h⟩)
        · exact .inl h
        · exact .inr ⟨e, .head _, h⟩
        · exact .inr ⟨y, .tail _ hy, h⟩
      · rintro (h | ⟨y, hy, h⟩)
        · exact .inl (.inl h)
        · rcases List.mem_cons.1 hy with rfl | hy
          · exact .inl (.inr h)
          · exact .inr ⟨y, hy, h⟩
  have h0 := key l [] (fun _ => False) ⟨List.nodup_nil, fun a => by simp, nofun⟩
  exact ⟨h0.nd, fun a => (h0.keys a).trans (by simp), h0.vals⟩
theorem ck_kind1 {e : En} (h : entCk e = 0) {a : Ad} (ha : a ∈ e.addrs) : e.kind = 1 := by
  by_cases hk : e.kind = 1
  · exact hk
  · rw [ck_nofix h hk] at ha; cases ha
/-- An address leads somewhere just if an entry of the index tells it. -/
theorem am_iff {l : List Le} {hs : List Hd} {x : Ixd} {v : Int} (hx : IxOk2 l hs x) (h : tabCk v l = 0) (H : HeldOk (l.map (·.e)) hs) (a : Ad) : (lkp x.am a).isSome = true ↔ ∃ e ∈ x.l, a ∈ adsI x e.e.host := by
  constructor
  · intro h1
    rw [hx.am] at h1
    cases hf : hs.find? (fun p => decide (p.ad = a)) with
    | some p =>
      have hp := List.mem_of_find?_eq_some hf
      have e : p.ad = a := by have := List.find?_some hf; simpa using this
      obtain ⟨z, hz, hza, -⟩ := held_ads hx h H hp
      exact ⟨z, (hm_mem hx.ix.hm hz).1, by rw [hza, e]; exact .head _⟩
    | none =>
      rw [hf] at h1
      cases hg : x.l.find? (fun y => decide (a ∈ y.e.addrs)) with
      | none => rw [hg] at h1; cases h1
      | some y =>
        have hy := List.mem_of_find?_eq_some hg
        have ha : a ∈ y.e.addrs := by have := List.find?_some hg; simpa using this
        have hc := xl_ck hx.ix h hy
        obtain ⟨y', hl, he, hq⟩ := own_like hx.ix h hy
        refine ⟨y, hy, ?_⟩
        rw [hq, entAd, if_neg (fun q => q hc), if_pos (ck_kind1 hc ha)]; exact ha
  · rintro ⟨e, he, ha⟩
    obtain ⟨z, hz, -⟩ := of_ads hx h H ha
    rw [hz]; rfl
theorem nd_len {α : Type} [DecidableEq α] : ∀ {xs ys : List α}, xs.Nodup → (∀ a ∈ xs, a ∈ ys) → xs.length ≤ ys.length
  | [], _, _, _ => Nat.zero_le _
  | x :: r, ys, h, hs => by
    rw [List.nodup_cons] at h
    have hx := hs x (.head _)
    have h1 := nd_len (ys := ys.erase x) h.2 (fun a ha => by
      have ne : a ≠ x := fun e => h.1 (e ▸ ha)
      exact (List.mem_erase_of_ne ne).2 (hs a (.tail _ ha)))
    have h2 := List.length_erase_of_mem hx
    have h3 : 0 < ys.length := List.length_pos_of_mem hx
    rw [List.length_cons]; omega
structure AllOk (x : Ixd) (hs : List Hd) (ys : List Rt) : Prop where
  fd : ∀ r ∈ ys, (lkp x.am r.ad).isSome = true ∧ rtI x r.ad = r
  up : ys.Pairwise fun a b => cmpA a.ad b.ad < 0
  told : ∀ a, (lkp x.am a).isSome = ys.any fun r => decide (r.ad = a)
  len : hs.length ≤ ys.length
theorem rt_ad {x : Ixd} {a : Ad} (h : (lkp x.am a).isSome = true) : (rtI x a).ad = a := by rw [rtI, if_pos h]
theorem all_okR {l : List Le} {hs : List Hd} {x : Ixd} {v : Int} (hx : IxOk2 l hs x) (h : tabCk v l = 0) (H : HeldOk (l.map (·.e)) hs) {ys : List Rt} (hp : ys.Perm ((allM x x.l).map (·.2))) (hs2 : ys.Pairwise fun a b => ¬ cmpA b.ad a.ad < 0) : AllOk x hs ys := by
  have hM := allM_ok x x.l
  have hk : ∀ a, a ∈ (allM x x.l).map (·.1) ↔ (lkp x.am a).isSome = true := fun a => (hM.keys a).trans (am_iff hx h H a).symm
  have hv : ∀ q ∈ allM x x.l, (lkp x.am q.1).isSome = true ∧ q.2 = rtI x q.1 ∧ q.2.ad = q.1 := fun q hq => by
    have h1 := (hk q.1).1 (List.mem_map.2 ⟨q, hq, rfl⟩)
    have h2 := hM.vals q hq
    exact ⟨h1, h2, by rw [h2]; exact rt_ad h1⟩
  have hads : ((allM x x.l).map (·.2)).map (·.ad) = (allM x x.l).map (·.1) := by
    rw [List.map_map]; exact List.map_congr_left fun q hq => (hv q hq).2.2
  have hpa : (ys.map (·.ad)).Perm ((allM x x.l).map (·.1)) := by rw [← hads]; exact hp.map _
  have hnd : (ys.map (·.ad)).Nodup := hpa.nodup_iff.2 hM.nd
  refine ⟨fun r hr => ?_, ?_, fun a => ?_, ?_⟩
  · obtain ⟨q, hq, rfl⟩ := List.mem_map.1 (hp.mem_iff.1 hr)
    obtain ⟨h1, h2, h3⟩ := hv q hq
    rw [h3]; exact ⟨h1, h2.symm⟩
  · have hne : ys.Pairwise fun a b => a.ad ≠ b.ad := List.pairwise_map.1 hnd
    refine (List.Pairwise.and hs2 hne).imp fun {a b} ⟨q1, q2⟩ => ?_
    by_cases h3 : cmpA a.ad b.ad < 0
    · exact h3
    · exact absurd (cmpA_eq q1 h3) q2
  · rw [Bool.eq_iff_iff, ← hk, ← hpa.mem_iff, List.any_eq_true, List.mem_map]
    simp only [decide_eq_true_eq]
  · have h1 : (hs.map (·.ad)).Nodup := by
      have := (held_iff.1 H).2
      exact List.pairwise_map.2 (this.imp fun h => h.2)
    have h2 := nd_len h1 (fun a ha => by
      obtain ⟨p, hp, rfl⟩ := List.mem_map.1 ha
      obtain ⟨z, hz, -, -⟩ := held_ads hx h H hp
      exact hpa.mem_iff.2 ((hk p.ad).2 (by rw [am_held hx H hp hz]; rfl)) : ∀ a ∈ hs.map (·.ad), a ∈ ys.map (·.ad))
    rw [List.length_map, List.length_map] at h2; exact h2
def cmp4 (a b : Ad) : Int := if a = b then 0 else if a.six ≠ b.six then (if b.six = true then -1 else 1) else if a.hi < b.hi ∨ a.hi = b.hi ∧ a.lo < b.lo then -1 else 1
theorem cmp4_neg {a b : Ad} (h : cmpA a b < 0) : cmp4 a b < 0 := by
  rw [cmpA_neg] at h
  unfold cmp4
  have hk : kdA a < kdA b → a.six ≠ b.six ∧ b.six = true := by unfold kdA; cases a.six <;> cases b.six <;> simp
  split
  · rename_i e; subst e; omega
  · split
    · rename_i e
      have hk2 : kdA a = kdA b → a.six = b.six := kd_inj
      rcases h with h | h
      · rw [if_pos (hk h).2]; decide
      · exact absurd (hk2 h.1) e
    · rename_i e
      rcases h with h | h
      · exact absurd (hk h).1 e
      · rw [if_pos (by omega)]; decide
theorem c_Cmp04 (a b : Ad) : Pure Tryz.prog 16 #[.agg (adC a).toArray, .agg (adC b).toArray] (.int .i64 (cmp4 a b)) := by
 intro w0
 refine calls_of_W (ok0 := no) (S := []) (args := [.agg (adC a).toArray, .agg (adC b).toArray]) 37 Tryz.func16 rfl rfl rfl (by simp) (by simp) ?_
 refine w_seq ?_
 refine w_region ?_
 refine o_box rfl rfl rfl (fun b1 => ?_)
 refine o_box rfl rfl rfl (fun b2 => ?_)
 refine o_y (y_assign rfl) rfl rfl ?_
 refine wl_nil ?_
 refine e_seq ?_
 refine w_seq ?_
 refine w_block ?_
 refine w_seq ?_
 refine w_region ?_
 refine o_y (y_loadrs 1 ty_28 rfl rfl rfl rfl) rfl rfl ?_
 refine o_y (y_loadrs 0 ty_28 rfl rfl rfl rfl) rfl rfl ?_
 refine o_y (y_eqst (by kernel_rfl) rfl rfl (eqd_ad _ _) rfl) rfl rfl ?_
 refine wl_splitp (t := 8) rfl (fun h1_2 => ?_) (fun h1_2 => ?_)
 ·skip
  refine o_y (y_assign rfl) rfl rfl ?_
  refine wl_nil ?_
  refine e_seq ?_
  refine w_cond_t rfl ?_
  refine w_seq ?_
  refine w_region ?_
  refine o_y (y_assign rfl) rfl rfl ?_
  refine wl_nil ?_
  refine e_seq ?_
  refine w_ret ?_
  refine e_blk_ret ?_
  refine e_seq_ret ?_
  refine e_ret (ts := [4]) rfl rfl rfl (fun w hw => ?_)
  refine ⟨?_, hw.base⟩
  show Ending.returned (.int _ _) = _
  congr 2
  unfold cmp4
  repeat' split
  all_goals first | rfl | (exfalso; first | omega | (simp_all; done) | (simp_all; omega))
 ·skip
  refine o_y (y_assign rfl) rfl rfl ?_
  refine wl_nil ?_
  refine e_seq ?_
  refine w_cond_f rfl ?_
  refine w_seq ?_
  refine w_region ?_
  refine o_y (y_field fa_28_0 rfl) rfl rfl ?_
  refine o_y (y_loadr 1 ty_4 rfl rfl rfl) rfl rfl ?_
  refine o_y (y_field fa_28_0 rfl) rfl rfl ?_
  refine o_y (y_loadr 0 ty_4 rfl rfl rfl) rfl rfl ?_
  refine o_y (y_neqb Tryz.underlying4 rfl rfl) rfl rfl ?_
  refine wl_splitp (t := 14) rfl (fun h3_4 => ?_) (fun h3_4 => ?_)
  ·skip
   refine o_y (y_assign rfl) rfl rfl ?_
   refine wl_nil ?_
   refine e_seq ?_
   refine w_cond_t rfl ?_
   refine w_seq ?_
   refine w_seq ?_
   refine w_region ?_
   refine o_y (y_field fa_28_0 rfl) rfl rfl ?_
   refine o_y (y_loadr 0 ty_4 rfl rfl rfl) rfl rfl ?_
   refine wl_splitb (t := 16) rfl (fun h4_1 => ?_) (fun h4_1 => ?_)
   ·skip
    refine wl_nil ?_
    refine e_seq ?_
    refine w_cond_t rfl ?_
    refine w_seq ?_
    refine w_region ?_
    refine o_y (y_assign rfl) rfl rfl ?_
    refine wl_nil ?_
    refine e_seq ?_
    refine w_ret ?_
    refine e_seq_ret ?_
    refine e_blk_ret ?_
    refine e_seq_ret ?_
    refine e_ret (ts := [4]) rfl rfl rfl (fun w hw => ?_)
    refine ⟨?_, hw.base⟩
    show Ending.returned (.int _ _) = _
    congr 2
    unfold cmp4
    repeat' split
    all_goals first | rfl | (exfalso; first | omega | (simp_all; done) | (simp_all; omega))
   ·skip
    refine wl_nil ?_
    refine e_seq ?_
    refine w_cond_f rfl ?_
    refine w_skip ?_
    refine e_seq ?_
    refine w_seq ?_
    refine w_region ?_
    refine o_y (y_assign rfl) rfl rfl ?_
    refine wl_nil ?_
    refine e_seq ?_
    refine w_ret ?_
    refine e_blk_ret ?_
    refine e_seq_ret ?_
    refine e_ret (ts := [4]) rfl rfl rfl (fun w hw => ?_)
    refine ⟨?_, hw.base⟩
    show Ending.returned (.int _ _) = _
    congr 2
    unfold cmp4
    repeat' split
    all_goals first | rfl | (exfalso; first | omega | (simp_all; done) | (simp_all; omega))
  ·skip
   refine o_y (y_assign rfl) rfl rfl ?_
   refine wl_nil ?_
   refine e_seq ?_
   refine w_cond_f rfl ?_
   refine w_seq ?_
   refine w_region ?_
   refine o_y (y_field fa_28_1 rfl) rfl rfl ?_
   refine o_y (y_loadr 1 ty_26 rfl rfl rfl) rfl rfl ?_
   refine o_y (y_field fa_28_1 rfl) rfl rfl ?_
   refine o_y (y_loadr 0 ty_26 rfl rfl rfl) rfl rfl ?_
   refine o_y (y_lss rfl rfl) rfl rfl ?_
   refine wl_splitp (t := 22) rfl (fun h7_4 => ?_) (fun h7_4 => ?_)
   ·skip
    refine o_y (y_move rfl) rfl rfl ?_
    refine wl_gno rfl rfl rfl rfl ?_
    refine wl_gno rfl rfl rfl rfl ?_
    refine wl_gno rfl rfl rfl rfl ?_
    refine wl_gno rfl rfl rfl rfl ?_
    refine wl_gno rfl rfl rfl rfl ?_
    refine wl_gno rfl rfl rfl rfl ?_
    refine wl_gnou rfl rfl rfl ?_
    refine wl_gnou rfl rfl rfl ?_
    refine wl_gnou rfl rfl rfl ?_
    refine wl_gnou rfl rfl rfl ?_
    refine wl_gnou rfl rfl rfl ?_
    refine wl_gno rfl rfl rfl rfl ?_
    refine o_y (y_pick_t rfl rfl) rfl rfl ?_
    refine o_y (y_assign rfl) rfl rfl ?_
    refine wl_nil ?_
    refine e_seq ?_
    refine w_cond_t rfl ?_
    refine w_seq ?_
    refine w_region ?_
    refine o_y (y_assign rfl) rfl rfl ?_
    refine wl_nil ?_
    refine e_seq ?_
    refine w_ret ?_
    refine e_blk_ret ?_
    refine e_seq_ret ?_
    refine e_ret (ts := [4]) rfl rfl rfl (fun w hw => ?_)
    refine ⟨?_, hw.base⟩
    show Ending.returned (.int _ _) = _
    congr 2
    unfold cmp4
    repeat' split
    all_goals first | rfl | (exfalso; first | omega | (simp_all; done) | (simp_all; omega))
   ·skip
    refine o_y (y_move rfl) rfl rfl ?_
    refine wl_gyes rfl rfl ?_
    refine o_y (y_field fa_28_1 rfl) rfl rfl ?_
    refine wl_gyes rfl rfl ?_
    refine o_y (y_loadr 1 ty_26 rfl rfl rfl) rfl rfl ?_
    refine wl_gyes rfl rfl ?_
    refine o_y (y_field fa_28_1 rfl) rfl rfl ?_
    refine wl_gyes rfl rfl ?_
    refine o_y (y_loadr 0 ty_26 rfl rfl rfl) rfl rfl ?_
    refine wl_gyes rfl rfl ?_
    refine o_y (y_eql rfl rfl) rfl rfl ?_
    refine wl_splitp (t := 28) rfl (fun h7_10 => ?_) (fun h7_10 => ?_)
    ·skip
     refine wl_gyes rfl rfl ?_
     refine o_y (y_move rfl) rfl rfl ?_
     refine wl_gyes rfl rfl ?_
     refine o_y (y_field fa_28_2 rfl) rfl rfl ?_
     refine wl_gyes rfl rfl ?_
     refine o_y (y_loadr 1 ty_26 rfl rfl rfl) rfl rfl ?_
     refine wl_gyes rfl rfl ?_
     refine o_y (y_field fa_28_2 rfl) rfl rfl ?_
     refine wl_gyes rfl rfl ?_
     refine o_y (y_loadr 0 ty_26 rfl rfl rfl) rfl rfl ?_
     refine wl_gyes rfl rfl ?_
     refine o_y (y_lss rfl rfl) rfl rfl ?_
     refine wl_splitp (t := 34) rfl (fun h7_16 => ?_) (fun h7_16 => ?_)
     ·skip
      refine wl_gyes rfl rfl ?_
      refine o_y (y_pick_t rfl rfl) rfl rfl ?_
      refine o_y (y_pick_f rfl rfl) rfl rfl ?_
      refine o_y (y_assign rfl) rfl rfl ?_
      refine wl_nil ?_
      refine e_seq ?_
      refine w_cond_t rfl ?_
      refine w_seq ?_
      refine w_region ?_
      refine o_y (y_assign rfl) rfl rfl ?_
      refine wl_nil ?_
      refine e_seq ?_
      refine w_ret ?_
      refine e_blk_ret ?_
      refine e_seq_ret ?_
      refine e_ret (ts := [4]) rfl rfl rfl (fun w hw => ?_)
      refine ⟨?_, hw.base⟩
      show Ending.returned (.int _ _) = _
      congr 2
      unfold cmp4
      repeat' split
      all_goals first | rfl | (exfalso; first | omega | (simp_all; done) | (simp_all; omega))
     ·skip
      refine wl_gyes rfl rfl ?_
      refine o_y (y_pick_t rfl rfl) rfl rfl ?_
      refine o_y (y_pick_f rfl rfl) rfl rfl ?_
      refine o_y (y_assign rfl) rfl rfl ?_
      refine wl_nil ?_
      refine e_seq ?_
      refine w_cond_f rfl ?_
      refine w_skip ?_
      refine e_blk ?_
      refine e_seq ?_
      refine w_seq ?_
      refine w_region ?_
      refine o_y (y_assign rfl) rfl rfl ?_
      refine wl_nil ?_
      refine e_seq ?_
      refine w_ret ?_
      refine e_ret (ts := [4]) rfl rfl rfl (fun w hw => ?_)
      refine ⟨?_, hw.base⟩
      show Ending.returned (.int _ _) = _
      congr 2
      unfold cmp4
      repeat' split
      all_goals first | rfl | (exfalso; first | omega | (simp_all; done) | (simp_all; omega))
    ·skip
     refine wl_gyes rfl rfl ?_
     refine o_y (y_move rfl) rfl rfl ?_
     refine wl_gno rfl rfl rfl rfl ?_
     refine wl_gno rfl rfl rfl rfl ?_
     refine wl_gno rfl rfl rfl rfl ?_
     refine wl_gno rfl rfl rfl rfl ?_
     refine wl_gno rfl rfl rfl rfl ?_
     refine wl_gyes rfl rfl ?_
     refine o_y (y_pick_f rfl rfl) rfl rfl ?_
     refine o_y (y_pick_f rfl rfl) rfl rfl ?_
     refine o_y (y_assign rfl) rfl rfl ?_
     refine wl_nil ?_
     refine e_seq ?_
     refine w_cond_f rfl ?_
     refine w_skip ?_
     refine e_blk ?_
     refine e_seq ?_
     refine w_seq ?_
     refine w_region ?_
     refine o_y (y_assign rfl) rfl rfl ?_
     refine wl_nil ?_
     refine e_seq ?_
     refine w_ret ?_
     refine e_ret (ts := [4]) rfl rfl rfl (fun w hw => ?_)
     refine ⟨?_, hw.base⟩
     show Ending.returned (.int _ _) = _
     congr 2
     unfold cmp4
     repeat' split
     all_goals first | rfl | (exfalso; first | omega | (simp_all; done) | (simp_all; omega))

theorem dc_hd {w : World} : Dc Tryz.prog w 42 (α := Hd) (hdC) (fun _ => []) (fun h => h.host.length ≤ 9223372036854775807 ∧ AdOk h.ad) := fun H enc base sp hd fuel cs x h => by
  obtain ⟨xs, n, rfl, _, hcl, hxl, hf⟩ := DataW.trod_struct Tryz.underlying42 h
  have hcl2 : cs.length = 4 := hcl.trans (by kernel_rfl)
  obtain ⟨x0, c0, r0, o0⟩ := dc_field hxl hf 0 (ft := 36) (off := 0) (k := 1) (by kernel_rfl) (by kernel_rfl) (dc_str Tryz.underlying36)
  obtain ⟨x1, c1, r1, o1⟩ := dc_field hxl hf 1 (ft := 28) (off := 1) (k := 3) (by kernel_rfl) (by kernel_rfl) dc_ad
  have hcs := cut0 (cutc c0 (cutc c1 (cutn hcl2) rfl) rfl)
  exact ⟨⟨x0, x1⟩, hcs, nofun, o0, o1⟩

theorem dc_hds {w : World} : Dc Tryz.prog w 25 (fun p : List Hd × Option Addr × Nat => [.slice p.2.1 p.1.length p.2.2]) (fun p => Ch.rd p.2.1 4 hdC p.1 :: p.1.flatMap (fun _ => [])) (fun p => p.1.length ≤ 9223372036854775807 ∧ ∀ h ∈ p.1, h.host.length ≤ 9223372036854775807 ∧ AdOk h.ad) := dc_slice Tryz.underlying25 (by kernel_rfl) (by decide) enc_hd dc_hd

end Go.Proofs.YtfmelbpgkbiooaaGreat
