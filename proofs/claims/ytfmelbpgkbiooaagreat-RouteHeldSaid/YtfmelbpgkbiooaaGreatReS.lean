import Derived.Test.YtfmelbpgkbiooaaGreatRdS
/- the laws of routes: what is held, and all routes -/
namespace Go.Proofs.YtfmelbpgkbiooaaGreat
open Go.RowKit Go.Shelf
set_option linter.unusedVariables false
set_option linter.unusedSimpArgs false

theorem ent_11 : Enters Tryz.prog 11 := enters_of Tryz.func11 (by kernel_rfl) rfl
theorem ent_14 : Enters Tryz.prog 14 := enters_of Tryz.func14 (by kernel_rfl) rfl
theorem ent_16 : Enters Tryz.prog 16 := enters_of Tryz.func16 (by kernel_rfl) rfl
theorem fa_38_1 : FA Tryz.prog 38 1 3 := fun b o w => by kernel_rfl

theorem held_same {l : List Le} {hs : List Hd} {x : Ixd} {v : Int} (hx : IxOk2 l hs x) (h : tabCk v l = 0) (H : HeldOk (l.map (·.e)) hs) {p : Hd} (hp : p ∈ hs) {r : Option Le} (hr : FE l p.host r) : (lkp x.am p.ad).isSome = true ∧ (rtI x p.ad).cl = (r.getD le0).e.cluster ∧ (rtI x p.ad).host = (r.getD le0).e.host ∧ (rtI x p.ad).ad = p.ad := by
  obtain ⟨z, hz, -, -⟩ := held_ads hx h H hp
  have h1 := am_held hx H hp hz
  have h2 := (held_at H hp).1.1
  have h3 : r.map (·.e) = some z.e := by
    rw [hr.e, lookN, if_neg (fun q => q h2), ← lk_E hx.ix.hm hx.ix.es, hz]; rfl
  have h4 : (r.getD le0).e = z.e := by
    cases r with
    | none => cases h3
    | some y => exact Option.some.inj h3
  have h5 : rtI x p.ad = ⟨p.ad, z.e.host, z.e.cluster⟩ := by rw [rtI, h1]; rfl
  rw [h1, h5, h4]; exact ⟨rfl, rfl, rfl, rfl⟩
theorem upd_keys {α β : Type} [DecidableEq α] (m : List (α × β)) (a : α) (v : β) (b : α) : b ∈ (upd m a v).map (·.1) ↔ b ∈ m.map (·.1) ∨ b = a := by
  induction m with
  | nil => simp [upd]
  | cons p q ih =>
    obtain ⟨c, u⟩ := p
    simp only [upd]
    split
    · rename_i e; subst e; simp only [List.map_cons, List.mem_cons]
      constructor
      · exact fun h => .inl h
      · rintro (h | rfl)
        · exact h
        · exact .inl rfl
    · simp only [List.map_cons, List.mem_cons]
      rw [ih]
      constructor
      · rintro (h | h | h)
        · exact .inl (.inl h)
        · exact .inl (.inr h)
        · exact .inr h
      · rintro ((h | h) | h)
        · exact .inl h
        · exact .inr (.inl h)
        · exact .inr (.inr h)
theorem upd_nd {α β : Type} [DecidableEq α] (m : List (α × β)) (a : α) (v : β) (h : (m.map (·.1)).Nodup) : ((upd m a v).map (·.1)).Nodup := by
  induction m with
  | nil => simp [upd]
  | cons p q ih =>
    obtain ⟨c, u⟩ := p
    rw [List.map_cons, List.nodup_cons] at h
    simp only [upd]
    split
    · rw [List.map_cons, List.nodup_cons]; exact h
    · rename_i e
      rw [List.map_cons, List.nodup_cons]
      refine ⟨fun hm => ?_, ih h.2⟩
      rcases (upd_keys q a v c).1 hm with hm | hm
      · exact h.1 hm
      · exact e hm.symm
theorem upd_mem {α β : Type} [DecidableEq α] {m : List (α × β)} {a : α} {v : β} {q : α × β} (h : q ∈ upd m a v) : q ∈ m ∨ q = (a, v) := by
  induction m with
  | nil => exact .inr (List.mem_singleton.1 h)
  | cons p r ih =>
    obtain ⟨c, u⟩ := p
    simp only [upd] at h
    split at h
    · rename_i e; subst e
      rcases List.mem_cons.1 h with h | h
      · exact .inr h
      · exact .inl (.tail _ h)
    · rcases List.mem_cons.1 h with h | h
      · exact .inl (h ▸ .head _)
      · rcases ih h with h | h
        · exact .inl (.tail _ h)
        · exact .inr h
structure AmI (x : Ixd) (K : Ad → Prop) (M : List (Ad × Rt)) : Prop where
  nd : (M.map (·.1)).Nodup
  keys : ∀ a, a ∈ M.map (·.1) ↔ K a
  vals : ∀ q ∈ M, q.2 = rtI x q.1
theorem addM_ok {x : Ixd} : ∀ {al : List Ad} {M : List (Ad × Rt)} {K : Ad → Prop}, AmI x K M → AmI x (fun a => K a ∨ a ∈ al) (addM x M al)
  | [], M, K, h => ⟨h.nd, fun a => by rw [show addM x M [] = M from rfl, h.keys]; simp, h.vals⟩
  | b :: r, M, K, h => by
    have h1 : AmI x (fun a => K a ∨ a = b) (upd M b (rtI x b)) := ⟨upd_nd _ _ _ h.nd, fun a => by rw [upd_keys, h.keys], fun q hq => by
      rcases upd_mem hq with hq | rfl
      · exact h.vals q hq
      · rfl⟩
    have h2 := addM_ok (al := r) h1
    refine ⟨h2.nd, fun a => (h2.keys a).trans ?_, h2.vals⟩
    rw [List.mem_cons, or_assoc]
theorem allM_ok (x : Ixd) (l : List Le) : AmI x (fun a => ∃ e ∈ l, a ∈ adsI x e.e.host) (allM x l) := by
  have key : ∀ (l : List Le) (M : List (Ad × Rt)) (K : Ad → Prop), AmI x K M → AmI x (fun a => K a ∨ ∃ e ∈ l, a ∈ adsI x e.e.host) (l.foldl (fun m e => addM x m (adsI x e.e.host)) M) := by
    intro l
    induction l with
    | nil => intro M K h; exact ⟨h.nd, fun a => by rw [List.foldl_nil, h.keys]; simp, h.vals⟩
    | cons e r ih =>
      intro M K h
      have h1 := ih _ _ (addM_ok (al := adsI x e.e.host) h)
      rw [List.foldl_cons]
      refine ⟨h1.nd, fun a => (h1.keys a).trans ?_, h1.vals⟩
      constructor
      · rintro ((h | h) | ⟨y, hy, h⟩)
        · exact .inl h
        · exact .inr ⟨e, .head _, h⟩
        · exact .inr ⟨y, .tail _ hy, h⟩
      · rintro (h | ⟨y, hy, h⟩)
        · exact .inl (.inl h)
        · rcases List.mem_cons.1 hy with rfl | hy
          · exact .inl (.inr h)
          · exact .inr ⟨y, hy, h⟩
  have h0 := key l [] (fun _ => False) ⟨List.nodup_nil, fun a => by simp, nofun⟩
  exact ⟨h0.nd, fun a => (h0.keys a).trans (by simp), h0.vals⟩
theorem ck_kind1 {e : En} (h : entCk e = 0) {a : Ad} (ha : a ∈ e.addrs) : e.kind = 1 := by
  by_cases hk : e.kind = 1
  · exact hk
  · rw [ck_nofix h hk] at ha; cases ha
/-- An address leads somewhere just if an entry of the index tells it. -/
theorem am_iff {l : List Le} {hs : List Hd} {x : Ixd} {v : Int} (hx : IxOk2 l hs x) (h : tabCk v l = 0) (H : HeldOk (l.map (·.e)) hs) (a : Ad) : (lkp x.am a).isSome = true ↔ ∃ e ∈ x.l, a ∈ adsI x e.e.host := by
  constructor
  · intro h1
    rw [hx.am] at h1
    cases hf : hs.find? (fun p => decide (p.ad = a)) with
    | some p =>
      have hp := List.mem_of_find?_eq_some hf
      have e : p.ad = a := by have := List.find?_some hf; simpa using this
      obtain ⟨z, hz, hza, -⟩ := held_ads hx h H hp
      exact ⟨z, (hm_mem hx.ix.hm hz).1, by rw [hza, e]; exact .head _⟩
    | none =>
      rw [hf] at h1
      cases hg : x.l.find? (fun y => decide (a ∈ y.e.addrs)) with
      | none => rw [hg] at h1; cases h1
      | some y =>
        have hy := List.mem_of_find?_eq_some hg
        have ha : a ∈ y.e.addrs := by have := List.find?_some hg; simpa using this
        have hc := xl_ck hx.ix h hy
        obtain ⟨y', hl, he, hq⟩ := own_like hx.ix h hy
        refine ⟨y, hy, ?_⟩
        rw [hq, entAd, if_neg (fun q => q hc), if_pos (ck_kind1 hc ha)]; exact ha
  · rintro ⟨e, he, ha⟩
    obtain ⟨z, hz, -⟩ := of_ads hx h H ha
    rw [hz]; rfl
theorem nd_len {α : Type} [DecidableEq α] : ∀ {xs ys : List α}, xs.Nodup → (∀ a ∈ xs, a ∈ ys) → xs.length ≤ ys.length
  | [], _, _, _ => Nat.zero_le _
  | x :: r, ys, h, hs => by
    rw [List.nodup_cons] at h
    have hx := hs x (.head _)
    have h1 := nd_len (ys := ys.erase x) h.2 (fun a ha => by
      have ne : a ≠ x := fun e => h.1 (e ▸ ha)
      exact (List.mem_erase_of_ne ne).2 (hs a (.tail _ ha)))
    have h2 := List.length_erase_of_mem hx
    have h3 : 0 < ys.length := List.length_pos_of_mem hx
    rw [List.length_cons]; omega
structure AllOk (x : Ixd) (hs : List Hd) (ys : List Rt) : Prop where
  fd : ∀ r ∈ ys, (lkp x.am r.ad).isSome = true ∧ rtI x r.ad = r
  up : ys.Pairwise fun a b => cmpA a.ad b.ad < 0
  told : ∀ a, (lkp x.am a).isSome = ys.any fun r => decide (r.ad = a)
  len : hs.length ≤ ys.length
theorem rt_ad {x : Ixd} {a : Ad} (h : (lkp x.am a).isSome = true) : (rtI x a).ad = a := by rw [rtI, if_pos h]
theorem all_okR {l : List Le} {hs : List Hd} {x : Ixd} {v : Int} (hx : IxOk2 l hs x) (h : tabCk v l = 0) (H : HeldOk (l.map (·.e)) hs) {ys : List Rt} (hp : ys.Perm ((allM x x.l).map (·.2))) (hs2 : ys.Pairwise fun a b => ¬ cmpA b.ad a.ad < 0) : AllOk x hs ys := by
  have hM := allM_ok x x.l
  have hk : ∀ a, a ∈ (allM x x.l).map (·.1) ↔ (lkp x.am a).isSome = true := fun a => (hM.keys a).trans (am_iff hx h H a).symm
  have hv : ∀ q ∈ allM x x.l, (lkp x.am q.1).isSome = true ∧ q.2 = rtI x q.1 ∧ q.2.ad = q.1 := fun q hq => by
    have h1 := (hk q.1).1 (List.mem_map.2 ⟨q, hq, rfl⟩)
    have h2 := hM.vals q hq
    exact ⟨h1, h2, by rw [h2]; exact rt_ad h1⟩
  have hads : ((allM x x.l).map (·.2)).map (·.ad) = (allM x x.l).map (·.1) := by
    rw [List.map_map]; exact List.map_congr_left fun q hq => (hv q hq).2.2
  have hpa : (ys.map (·.ad)).Perm ((allM x x.l).map (·.1)) := by rw [← hads]; exact hp.map _
  have hnd : (ys.map (·.ad)).Nodup := hpa.nodup_iff.2 hM.nd
  refine ⟨fun r hr => ?_, ?_, fun a => ?_, ?_⟩
  · obtain ⟨q, hq, rfl⟩ := List.mem_map.1 (hp.mem_iff.1 hr)
    obtain ⟨h1, h2, h3⟩ := hv q hq
    rw [h3]; exact ⟨h1, h2.symm⟩
  · have hne : ys.Pairwise fun a b => a.ad ≠ b.ad := List.pairwise_map.1 hnd
    refine (List.Pairwise.and hs2 hne).imp fun {a b} ⟨q1, q2⟩ => ?_
    by_cases h3 : cmpA a.ad b.ad < 0
    · exact h3
    · exact absurd (cmpA_eq q1 h3) q2
  · rw [Bool.eq_iff_iff, ← hk, ← hpa.mem_iff, List.any_eq_true, List.mem_map]
    simp only [decide_eq_true_eq]
  · have h1 : (hs.map (·.ad)).Nodup := by
      have := (held_iff.1 H).2
      exact List.pairwise_map.2 (this.imp fun h => h.2)
    have h2 := nd_len h1 (fun a ha => by
      obtain ⟨p, hp, rfl⟩ := List.mem_map.1 ha
      obtain ⟨z, hz, -, -⟩ := held_ads hx h H hp
      exact hpa.mem_iff.2 ((hk p.ad).2 (by rw [am_held hx H hp hz]; rfl)) : ∀ a ∈ hs.map (·.ad), a ∈ ys.map (·.ad))
    rw [List.length_map, List.length_map] at h2; exact h2
def cmp4 (a b : Ad) : Int := if a = b then 0 else if a.six ≠ b.six then (if b.six = true then -1 else 1) else if a.hi < b.hi ∨ a.hi = b.hi ∧ a.lo < b.lo then -1 else 1
theorem cmp4_neg {a b : Ad} (h : cmpA a b < 0) : cmp4 a b < 0 := by
  rw [cmpA_neg] at h
  unfold cmp4
  have hk : kdA a < kdA b → a.six ≠ b.six ∧ b.six = true := by unfold kdA; cases a.six <;> cases b.six <;> simp
  split
  · rename_i e; subst e; omega
  · split
    · rename_i e
      have hk2 : kdA a = kdA b → a.six = b.six := kd_inj
      rcases h with h | h
      · rw [if_pos (hk h).2]; decide
      · exact absurd (hk2 h.1) e
    · rename_i e
      rcases h with h | h
      · exact absurd (hk h).1 e
      · rw [if_pos (by omega)]; decide
theorem up_at {ys : List Rt} (h : ys.Pairwise fun a b => cmpA a.ad b.ad < 0) {j : Nat} (h1 : 0 < j) (h2 : j < ys.length) : cmp4 (ys.getD (j - 1) rt0).ad (ys.getD j rt0).ad < 0 := by
  rw [List.pairwise_iff_getElem] at h
  have := h (j - 1) j (by omega) h2 (by omega)
  rw [List.getD_eq_getElem?_getD, List.getD_eq_getElem?_getD, List.getElem?_eq_getElem h2, List.getElem?_eq_getElem (by omega)]
  exact cmp4_neg this
theorem u_skip {x : Cx} {C : World → Prop} {l : Fr} {L S : List Ch} {Q : Exit → Act → World → Prop} {ops : Array Oper} {fuel m : Nat} {listed : Array Bool} {i d : Nat} {op : Op} {ty : TypeId} {pos : String} {af : Array Edge} {gd : Option (Nat × Bool)} {listed' : Array Bool} (hi : ops[i]? = some ⟨some d, op, ty, pos, af, gd⟩) (hw : ∀ a, Kn x.N x.ds l a → Region.wanted ⟨some d, op, ty, pos, af, gd⟩ (yielded ops a.tmps) = false)
    (hC : ∀ w, Hp x.ok0 x.w0 L S w → C w) (hN : Nat.blt d x.N = true) (hpk : PkOk Q)
    (hs : (Region.noSelect ops && Region.free .any ops listed i && (Region.ready .any ops listed).contains i && tailW2 ops m i && Nat.blt i m && noTail m listed && closedB ops listed) = true) (hl : listed.setIfInBounds i true = listed')
    (k : WU x C m ops fuel listed' ((d, undef) :: l) L S Q) : WU x C m ops (fuel + 1) listed l L S Q := fun a w ha hh => by
  simp only [Bool.and_eq_true] at hs
  obtain ⟨⟨⟨⟨⟨⟨h1, h2⟩, h3⟩, h4⟩, h5⟩, h6⟩, h7⟩ := hs
  exact wpAnyU_first hi (Region.noSelect_spec h1) (fun c a w h => hpk c a w _ _ h) h4 (Nat.le_of_ble_eq_true h5) fuel listed a w h6 (closed_of h7) (Region.free_spec hi h2) (by simpa using h3) (.inr ⟨hw a ha, rfl⟩) (hC w hh) (by rw [hl]; exact k _ w (ha.put (Nat.le_of_ble_eq_true hN) undef) hh)
def tld (ys : List Rt) (a : Ad) (j : Nat) : Bool := (ys.take j).any fun r => decide (r.ad = a)
theorem tld_step {ys : List Rt} {a : Ad} {j : Nat} (hj : j < ys.length) : tld ys a (j + 1) = (tld ys a j || decide ((ys.getD j rt0).ad = a)) := by
  rw [tld, tld, take_getD ys rt0 j hj, List.any_append]; simp

theorem c_Cmp04 (a b : Ad) : Pure Tryz.prog 16 #[.agg (adC a).toArray, .agg (adC b).toArray] (.int .i64 (cmp4 a b)) := by
 intro w0
 refine calls_of_W (ok0 := no) (S := []) (args := [.agg (adC a).toArray, .agg (adC b).toArray]) 37 Tryz.func16 rfl rfl rfl (by simp) (by simp) ?_
 refine w_seq ?_
 refine w_region ?_
 refine o_box rfl rfl rfl (fun b1 => ?_)
 refine o_box rfl rfl rfl (fun b2 => ?_)
 refine o_y (y_assign rfl) rfl rfl ?_
 refine wl_nil ?_
 refine e_seq ?_
 refine w_seq ?_
 refine w_block ?_
 refine w_seq ?_
 refine w_region ?_
 refine o_y (y_loadrs 1 ty_28 rfl rfl rfl rfl) rfl rfl ?_
 refine o_y (y_loadrs 0 ty_28 rfl rfl rfl rfl) rfl rfl ?_
 refine o_y (y_eqst (by kernel_rfl) rfl rfl (eqd_ad _ _) rfl) rfl rfl ?_
 refine wl_splitp (t := 8) rfl (fun h1_2 => ?_) (fun h1_2 => ?_)
 ·skip
  refine o_y (y_assign rfl) rfl rfl ?_
  refine wl_nil ?_
  refine e_seq ?_
  refine w_cond_t rfl ?_
  refine w_seq ?_
  refine w_region ?_
  refine o_y (y_assign rfl) rfl rfl ?_
  refine wl_nil ?_
  refine e_seq ?_
  refine w_ret ?_
  refine e_blk_ret ?_
  refine e_seq_ret ?_
  refine e_ret (ts := [4]) rfl rfl rfl (fun w hw => ?_)
  refine ⟨?_, hw.base⟩
  show Ending.returned (.int _ _) = _
  congr 2
  unfold cmp4
  repeat' split
  all_goals first | rfl | (exfalso; first | omega | (simp_all; done) | (simp_all; omega))
 ·skip
  refine o_y (y_assign rfl) rfl rfl ?_
  refine wl_nil ?_
  refine e_seq ?_
  refine w_cond_f rfl ?_
  refine w_seq ?_
  refine w_region ?_
  refine o_y (y_field fa_28_0 rfl) rfl rfl ?_
  refine o_y (y_loadr 1 ty_4 rfl rfl rfl) rfl rfl ?_
  refine o_y (y_field fa_28_0 rfl) rfl rfl ?_
  refine o_y (y_loadr 0 ty_4 rfl rfl rfl) rfl rfl ?_
  refine o_y (y_neqb Tryz.underlying4 rfl rfl) rfl rfl ?_
  refine wl_splitp (t := 14) rfl (fun h3_4 => ?_) (fun h3_4 => ?_)
  ·skip
   refine o_y (y_assign rfl) rfl rfl ?_
   refine wl_nil ?_
   refine e_seq ?_
   refine w_cond_t rfl ?_
   refine w_seq ?_
   refine w_seq ?_
   refine w_region ?_
   refine o_y (y_field fa_28_0 rfl) rfl rfl ?_
   refine o_y (y_loadr 0 ty_4 rfl rfl rfl) rfl rfl ?_
   refine wl_splitb (t := 16) rfl (fun h4_1 => ?_) (fun h4_1 => ?_)
   ·skip
    refine wl_nil ?_
    refine e_seq ?_
    refine w_cond_t rfl ?_
    refine w_seq ?_
    refine w_region ?_
    refine o_y (y_assign rfl) rfl rfl ?_
    refine wl_nil ?_
    refine e_seq ?_
    refine w_ret ?_
    refine e_seq_ret ?_
    refine e_blk_ret ?_
    refine e_seq_ret ?_
    refine e_ret (ts := [4]) rfl rfl rfl (fun w hw => ?_)
    refine ⟨?_, hw.base⟩
    show Ending.returned (.int _ _) = _
    congr 2
    unfold cmp4
    repeat' split
    all_goals first | rfl | (exfalso; first | omega | (simp_all; done) | (simp_all; omega))
   ·skip
    refine wl_nil ?_
    refine e_seq ?_
    refine w_cond_f rfl ?_
    refine w_skip ?_
    refine e_seq ?_
    refine w_seq ?_
    refine w_region ?_
    refine o_y (y_assign rfl) rfl rfl ?_
    refine wl_nil ?_
    refine e_seq ?_
    refine w_ret ?_
    refine e_blk_ret ?_
    refine e_seq_ret ?_
    refine e_ret (ts := [4]) rfl rfl rfl (fun w hw => ?_)
    refine ⟨?_, hw.base⟩
    show Ending.returned (.int _ _) = _
    congr 2
    unfold cmp4
    repeat' split
    all_goals first | rfl | (exfalso; first | omega | (simp_all; done) | (simp_all; omega))
  ·skip
   refine o_y (y_assign rfl) rfl rfl ?_
   refine wl_nil ?_
   refine e_seq ?_
   refine w_cond_f rfl ?_
   refine w_seq ?_
   refine w_region ?_
   refine o_y (y_field fa_28_1 rfl) rfl rfl ?_
   refine o_y (y_loadr 1 ty_26 rfl rfl rfl) rfl rfl ?_
   refine o_y (y_field fa_28_1 rfl) rfl rfl ?_
   refine o_y (y_loadr 0 ty_26 rfl rfl rfl) rfl rfl ?_
   refine o_y (y_lss rfl rfl) rfl rfl ?_
   refine wl_splitp (t := 22) rfl (fun h7_4 => ?_) (fun h7_4 => ?_)
   ·skip
    refine o_y (y_move rfl) rfl rfl ?_
    refine wl_gno rfl rfl rfl rfl ?_
    refine wl_gno rfl rfl rfl rfl ?_
    refine wl_gno rfl rfl rfl rfl ?_
    refine wl_gno rfl rfl rfl rfl ?_
    refine wl_gno rfl rfl rfl rfl ?_
    refine wl_gno rfl rfl rfl rfl ?_
    refine wl_gnou rfl rfl rfl ?_
    refine wl_gnou rfl rfl rfl ?_
    refine wl_gnou rfl rfl rfl ?_
    refine wl_gnou rfl rfl rfl ?_
    refine wl_gnou rfl rfl rfl ?_
    refine wl_gno rfl rfl rfl rfl ?_
    refine o_y (y_pick_t rfl rfl) rfl rfl ?_
    refine o_y (y_assign rfl) rfl rfl ?_
    refine wl_nil ?_
    refine e_seq ?_
    refine w_cond_t rfl ?_
    refine w_seq ?_
    refine w_region ?_
    refine o_y (y_assign rfl) rfl rfl ?_
    refine wl_nil ?_
    refine e_seq ?_
    refine w_ret ?_
    refine e_blk_ret ?_
    refine e_seq_ret ?_
    refine e_ret (ts := [4]) rfl rfl rfl (fun w hw => ?_)
    refine ⟨?_, hw.base⟩
    show Ending.returned (.int _ _) = _
    congr 2
    unfold cmp4
    repeat' split
    all_goals first | rfl | (exfalso; first | omega | (simp_all; done) | (simp_all; omega))
   ·skip
    refine o_y (y_move rfl) rfl rfl ?_
    refine wl_gyes rfl rfl ?_
    refine o_y (y_field fa_28_1 rfl) rfl rfl ?_
    refine wl_gyes rfl rfl ?_
    refine o_y (y_loadr 1 ty_26 rfl rfl rfl) rfl rfl ?_
    refine wl_gyes rfl rfl ?_
    refine o_y (y_field fa_28_1 rfl) rfl rfl ?_
    refine wl_gyes rfl rfl ?_
    refine o_y (y_loadr 0 ty_26 rfl rfl rfl) rfl rfl ?_
    refine wl_gyes rfl rfl ?_
    refine o_y (y_eql rfl rfl) rfl rfl ?_
    refine wl_splitp (t := 28) rfl (fun h7_10 => ?_) (fun h7_10 => ?_)
    ·skip
     refine wl_gyes rfl rfl ?_
     refine o_y (y_move rfl) rfl rfl ?_
     refine wl_gyes rfl rfl ?_
     refine o_y (y_field fa_28_2 rfl) rfl rfl ?_
     refine wl_gyes rfl rfl ?_
     refine o_y (y_loadr 1 ty_26 rfl rfl rfl) rfl rfl ?_
     refine wl_gyes rfl rfl ?_
     refine o_y (y_field fa_28_2 rfl) rfl rfl ?_
     refine wl_gyes rfl rfl ?_
     refine o_y (y_loadr 0 ty_26 rfl rfl rfl) rfl rfl ?_
     refine wl_gyes rfl rfl ?_
     refine o_y (y_lss rfl rfl) rfl rfl ?_
     refine wl_splitp (t := 34) rfl (fun h7_16 => ?_) (fun h7_16 => ?_)
     ·skip
      refine wl_gyes rfl rfl ?_
      refine o_y (y_pick_t rfl rfl) rfl rfl ?_
      refine o_y (y_pick_f rfl rfl) rfl rfl ?_
      refine o_y (y_assign rfl) rfl rfl ?_
      refine wl_nil ?_
      refine e_seq ?_
      refine w_cond_t rfl ?_
      refine w_seq ?_
      refine w_region ?_
      refine o_y (y_assign rfl) rfl rfl ?_
      refine wl_nil ?_
      refine e_seq ?_
      refine w_ret ?_
      refine e_blk_ret ?_
      refine e_seq_ret ?_
      refine e_ret (ts := [4]) rfl rfl rfl (fun w hw => ?_)
      refine ⟨?_, hw.base⟩
      show Ending.returned (.int _ _) = _
      congr 2
      unfold cmp4
      repeat' split
      all_goals first | rfl | (exfalso; first | omega | (simp_all; done) | (simp_all; omega))
     ·skip
      refine wl_gyes rfl rfl ?_
      refine o_y (y_pick_t rfl rfl) rfl rfl ?_
      refine o_y (y_pick_f rfl rfl) rfl rfl ?_
      refine o_y (y_assign rfl) rfl rfl ?_
      refine wl_nil ?_
      refine e_seq ?_
      refine w_cond_f rfl ?_
      refine w_skip ?_
      refine e_blk ?_
      refine e_seq ?_
      refine w_seq ?_
      refine w_region ?_
      refine o_y (y_assign rfl) rfl rfl ?_
      refine wl_nil ?_
      refine e_seq ?_
      refine w_ret ?_
      refine e_ret (ts := [4]) rfl rfl rfl (fun w hw => ?_)
      refine ⟨?_, hw.base⟩
      show Ending.returned (.int _ _) = _
      congr 2
      unfold cmp4
      repeat' split
      all_goals first | rfl | (exfalso; first | omega | (simp_all; done) | (simp_all; omega))
    ·skip
     refine wl_gyes rfl rfl ?_
     refine o_y (y_move rfl) rfl rfl ?_
     refine wl_gno rfl rfl rfl rfl ?_
     refine wl_gno rfl rfl rfl rfl ?_
     refine wl_gno rfl rfl rfl rfl ?_
     refine wl_gno rfl rfl rfl rfl ?_
     refine wl_gno rfl rfl rfl rfl ?_
     refine wl_gyes rfl rfl ?_
     refine o_y (y_pick_f rfl rfl) rfl rfl ?_
     refine o_y (y_pick_f rfl rfl) rfl rfl ?_
     refine o_y (y_assign rfl) rfl rfl ?_
     refine wl_nil ?_
     refine e_seq ?_
     refine w_cond_f rfl ?_
     refine w_skip ?_
     refine e_blk ?_
     refine e_seq ?_
     refine w_seq ?_
     refine w_region ?_
     refine o_y (y_assign rfl) rfl rfl ?_
     refine wl_nil ?_
     refine e_seq ?_
     refine w_ret ?_
     refine e_ret (ts := [4]) rfl rfl rfl (fun w hw => ?_)
     refine ⟨?_, hw.base⟩
     show Ending.returned (.int _ _) = _
     congr 2
     unfold cmp4
     repeat' split
     all_goals first | rfl | (exfalso; first | omega | (simp_all; done) | (simp_all; omega))

set_option maxRecDepth 100000 in
set_option maxHeartbeats 1000000 in
theorem c_RouteHeld (v : Int) (l : List Le) (F : Option Addr) (d : Nat) (hs : List Hd) (Q : Option Addr) (qc : Nat) (a : Ad) (hen : ∀ x ∈ l, EnOk x.e) (hll : l.length ≤ 9223372036854775807) (hhen : ∀ h ∈ hs, h.host.length ≤ 9223372036854775807 ∧ AdOk h.ad) (hhl : hs.length ≤ 9223372036854775807) : RC Tryz.prog 3 #[.agg (tbC v F l.length d).toArray, .slice Q hs.length qc, .agg (adC a).toArray] [Ch.rd F 7 elC l, Ch.rall (l.flatMap elR), Ch.rd Q 4 hdC hs] (α := Unit) (fun _ => .bool true) (fun _ => []) := by
 refine rc_of_W (args := [.agg (tbC v F l.length d).toArray, .slice Q hs.length qc, .agg (adC a).toArray]) 165 Tryz.func3 rfl rfl rfl (fun w0 => ?_)
 rcases Decidable.em (tabCk v l = 0) with hT | hT
 ·skip
  refine w_seq ?_
  refine w_region ?_
  refine o_box rfl rfl rfl (fun b1 => ?_)
  refine o_box rfl rfl rfl (fun b2 => ?_)
  refine o_y (y_assign rfl) rfl rfl ?_
  refine wl_nil ?_
  refine e_seq ?_
  refine w_seq ?_
  refine w_seq ?_
  refine w_region ?_
  refine o_callp rfl ent_9 c_lives19 rfl ?_
  refine wl_as (t := 21) (.bool true) rfl (congrArg Value.bool rfl) ?_
  refine o_y (y_not rfl) rfl rfl ?_
  refine wl_nil ?_
  refine e_seq ?_
  refine w_cond_f rfl ?_
  refine w_skip ?_
  refine e_seq ?_
  refine w_seq ?_
  refine w_seq ?_
  refine w_region ?_
  refine o_y (y_field fa_24_1 rfl) rfl rfl ?_
  refine o_y (y_loadr 1 ty_22 rfl rfl rfl) rfl rfl ?_
  refine o_callq rfl ent_10 rfl (c_LightEntries _ _ _ _ (by omega)) (fun w hw => (rd_cons (rd_S 0 rfl hw) rd_nil)) ?_
  refine wl_splitb (t := 25) rfl (fun h3_2 => ?_) (fun h3_2 => ?_)
  ·skip
   have hle9 := lightEs_le h3_2
   have hok : TbOk l := fun x hx => ⟨hen x hx, hle9.1 x hx⟩
   have hl9 := hle9.2
   refine o_y (y_not rfl) rfl rfl ?_
   refine o_y (y_move rfl) rfl rfl ?_
   refine wl_gyes rfl rfl ?_
   refine o_y (y_move rfl) rfl rfl ?_
   refine wl_gyes rfl rfl ?_
   refine o_callq rfl ent_11 rfl (c_LightHeld _ _ _ _ (by omega)) (fun w hw => (rd_cons (rd_S 2 rfl hw) rd_nil)) ?_
   refine wl_splitb (t := 29) rfl (fun h3_6 => ?_) (fun h3_6 => ?_)
   ·skip
    have hlh := lightHs_le h3_6
    have hlh2 := hlh.2
    have hhs : ∀ h ∈ hs, 0 ≤ h.ad.lo := fun h hh => (hhen h hh).2.2.2.1
    have hhh : ∀ h ∈ hs, h.host.length ≤ 1000 ∧ 0 ≤ h.ad.lo := fun h hh => ⟨by have := hlh.1 h hh; omega, hhs h hh⟩
    refine wl_gyes rfl rfl ?_
    refine o_y (y_not rfl) rfl rfl ?_
    refine o_y (y_pick_f rfl rfl) rfl rfl ?_
    refine wl_nil ?_
    refine e_seq ?_
    refine w_cond_f rfl ?_
    refine w_skip ?_
    refine e_seq ?_
    refine w_seq ?_
    refine w_region ?_
    refine o_y (y_loadrs 1 ty_24 rfl rfl rfl rfl) rfl rfl ?_
    refine o_y (y_move rfl) rfl rfl ?_
    refine o_callr1 rfl ent_12 rfl (c_index_NewH v l _ _ Q hs qc hok (by omega) hT (by omega) hhh) (fun w hw => (rd_cons (rd_S 0 rfl hw) (rd_cons (rd_S 1 rfl hw) (rd_cons (rd_S 2 rfl hw) rd_nil)))) (fun ⟨oix, hno, hyes⟩ => ?_)
    refine wl_as (t := 35) (.tuple #[.pointer (ixP oix), .int .i64 (ixE oix)]) rfl (ixV_pe oix) ?_
    refine o_y (y_move rfl) rfl rfl ?_
    refine o_y (y_extract rfl rfl) rfl rfl ?_
    refine o_y (y_extract rfl rfl) rfl rfl ?_
    refine o_y (y_assign rfl) rfl rfl ?_
    refine o_y (y_assign rfl) rfl rfl ?_
    refine wl_nil ?_
    refine e_seq ?_
    refine w_seq ?_
    refine w_seq ?_
    refine w_region ?_
    refine o_y (y_move rfl) rfl rfl ?_
    refine o_y (y_neq rfl rfl) rfl rfl ?_
    refine wl_splitp (t := 39) rfl (fun h6_1 => ?_) (fun h6_1 => ?_)
    ·skip
     obtain rfl := ixE_no h6_1
     refine wl_nil ?_
     refine e_seq ?_
     refine w_cond_t rfl ?_
     refine w_seq ?_
     refine w_region ?_
     refine o_y (y_assign rfl) rfl rfl ?_
     refine wl_nil ?_
     refine e_seq ?_
     refine w_ret ?_
     refine e_seq_ret ?_
     refine e_ret (ts := [6]) rfl rfl rfl (fun w hw => ?_)
     exact ⟨(), rfl, hw.base, (hw.weak (List.nil_sublist _) (fun s hs => hs)).toNews⟩
    ·skip
     obtain ⟨ix, rfl⟩ := ixE_yes h6_1
     obtain ⟨hH, hix2⟩ := hyes ix rfl
     have hix := hix2.ix
     refine wl_nil ?_
     refine e_seq ?_
     refine w_cond_f rfl ?_
     refine w_skip ?_
     refine e_seq ?_
     refine w_seq ?_
     refine w_seq ?_
     refine w_region ?_
     refine o_y (y_assign rfl) rfl rfl ?_
     refine wl_nil ?_
     refine e_seq ?_
     refine w_block ?_
     refine w_loop0 (σ := Nat) [6, 9, 10, 11, 12, 13, 40, 41, 42, 43, 44, 45, 46, 47, 48, 49, 50, 51, 52, 53, 54, 55, 56, 57, 58, 59, 60, 61, 62, 63, 64, 65, 66, 67, 68, 69, 70, 71, 72, 73, 74, 75, 76, 77, 78, 79, 80, 81, 82, 83, 84, 85, 86, 87, 88, 89, 90, 91] (fun i => i ≤ hs.length) (fun i => hs.length - i) (fun i => [(9, .int .i64 i)]) (0) ?_ ⟨rfl, trivial⟩ (fun i hI => ?_)
     ·exact Nat.zero_le _
     refine w_seq ?_
     refine w_seq ?_
     refine w_region ?_
     refine o_y (y_move rfl) rfl rfl ?_
     refine o_y (y_move rfl) rfl rfl ?_
     refine o_y (y_lenl Tryz.underlying25 rfl) rfl rfl ?_
     refine o_y (y_lss rfl rfl) rfl rfl ?_
     refine wl_splitp (t := 43) rfl (fun h9_3 => ?_) (fun h9_3 => ?_)
     ·skip
      have hi : i < hs.length := by omega
      have hp9 := mem_getD (d := hd0) hi
      have hpl := (hhh _ hp9).1
      refine wl_nil ?_
      refine e_seq ?_
      refine w_cond_t rfl ?_
      refine w_skip ?_
      refine e_seq ?_
      refine w_seq ?_
      refine w_block ?_
      refine w_seq ?_
      refine w_region ?_
      refine o_y (y_move rfl) rfl rfl ?_
      refine o_y (y_move rfl) rfl rfl ?_
      refine o_y (y_move rfl) rfl rfl ?_
      refine o_y (y_ixm  Tryz.underlying25 ty_42 rfl rfl (rs_S 2 rfl) rfl (by omega)) rfl rfl ?_
      refine o_y (y_field fa_42_1 rfl) rfl rfl ?_
      refine o_y (y_ldsm 1 enc_hd hd0 ty_28 rfl (rs_S 2 rfl) (by omega) rfl rfl rfl) rfl rfl ?_
      refine o_callq rfl ent_13 rfl (c_route_Find ix (hs.getD i hd0).ad) (fun w hw => (rd_cons (rd_all (rd_L 0 rfl hw) (.head _)) (rd_cons (rd_all (rd_L 0 rfl hw) (.tail _ (.tail _ (.tail _ (.head _))))) rd_nil))) ?_
      refine o_y (y_move rfl) rfl rfl ?_
      refine o_y (y_extract rfl rfl) rfl rfl ?_
      refine o_y (y_extract rfl rfl) rfl rfl ?_
      refine o_alloc ty_38 rfl rfl (fun b4 => ?_)
      refine o_store ty_38 rfl rfl rfl .z rfl rfl rfl rfl ?_
      refine o_y (y_assign rfl) rfl rfl ?_
      refine wl_nil ?_
      refine e_seq ?_
      refine w_joinX (σ := {r : Option Le // FE l (hs.getD i hd0).host r} × Nat) (fun g => [(12, .pointer (some ⟨g.2, 0, none⟩))]) (fun g => [Ch.row g.2 (elC (g.1.1.getD le0)) 47]) (fun g => ?_) (fun J12 => ?_)
      ·skip
       refine w_seq ?_
       obtain ⟨⟨rb, hrb⟩, qb⟩ := g
       have hq := held_same hix2 hT hH hp9 hrb
       refine w_drawU 26 rfl mixed ?_
       refine u_take (i := 0) rfl wanted_none (y_move rfl) (fun w h => h) (fun w h => h) rfl (pk_seq (pk_blk (pk_seq (pk_loop (pk_blk (pk_seq pk_fn)))))) (by kernel_rfl) rfl ?_
       refine wu_as (t := 66) (.bool true) rfl (congrArg Value.bool hq.1) ?_
       refine u_take (i := 1) rfl wanted_none (y_not rfl) (fun w h => h) (fun w h => h) rfl (pk_seq (pk_blk (pk_seq (pk_loop (pk_blk (pk_seq pk_fn)))))) (by kernel_rfl) rfl ?_
       refine u_take (i := 2) rfl wanted_none (y_move rfl) (fun w h => h) (fun w h => h) rfl (pk_seq (pk_blk (pk_seq (pk_loop (pk_blk (pk_seq pk_fn)))))) (by kernel_rfl) rfl ?_
       refine u_take (i := 3) rfl (wanted_yes rfl rfl) (y_field fa_38_2 rfl) (fun w h => h) (fun w h => h) rfl (pk_seq (pk_blk (pk_seq (pk_loop (pk_blk (pk_seq pk_fn)))))) (by kernel_rfl) rfl ?_
       refine u_take (i := 4) rfl (wanted_yes rfl rfl) (y_loadr 1 ty_9 rfl rfl rfl) (fun w h => h) (fun w h => h) rfl (pk_seq (pk_blk (pk_seq (pk_loop (pk_blk (pk_seq pk_fn)))))) (by kernel_rfl) rfl ?_
       refine u_take (i := 5) rfl (wanted_yes rfl rfl) (y_field fa_47_2 rfl) (fun w h => h) (fun w h => h) rfl (pk_seq (pk_blk (pk_seq (pk_loop (pk_blk (pk_seq pk_fn)))))) (by kernel_rfl) rfl ?_
       refine u_take (i := 6) rfl (wanted_yes rfl rfl) (y_loadr 0 ty_9 rfl rfl rfl) (fun w h => h) (fun w h => h) rfl (pk_seq (pk_blk (pk_seq (pk_loop (pk_blk (pk_seq pk_fn)))))) (by kernel_rfl) rfl ?_
       refine u_take (i := 7) rfl (wanted_yes rfl rfl) (y_neqs rfl rfl) (fun w h => h) (fun w h => h) rfl (pk_seq (pk_blk (pk_seq (pk_loop (pk_blk (pk_seq pk_fn)))))) (by kernel_rfl) rfl ?_
       refine wu_af (t := 73) rfl (fun h => h hq.2.1) ?_
       refine u_take (i := 8) rfl wanted_none (y_pick_f rfl rfl) (fun w h => h) (fun w h => h) rfl (pk_seq (pk_blk (pk_seq (pk_loop (pk_blk (pk_seq pk_fn)))))) (by kernel_rfl) rfl ?_
       refine u_take (i := 9) rfl wanted_none (y_move rfl) (fun w h => h) (fun w h => h) rfl (pk_seq (pk_blk (pk_seq (pk_loop (pk_blk (pk_seq pk_fn)))))) (by kernel_rfl) rfl ?_
       refine u_take (i := 10) rfl (wanted_yes rfl rfl) (y_field fa_38_1 rfl) (fun w h => h) (fun w h => h) rfl (pk_seq (pk_blk (pk_seq (pk_loop (pk_blk (pk_seq pk_fn)))))) (by kernel_rfl) rfl ?_
       refine u_take (i := 11) rfl (wanted_yes rfl rfl) (y_loadr 1 ty_36 rfl rfl rfl) (fun w h => h) (fun w h => h) rfl (pk_seq (pk_blk (pk_seq (pk_loop (pk_blk (pk_seq pk_fn)))))) (by kernel_rfl) rfl ?_
       refine u_take (i := 12) rfl (wanted_yes rfl rfl) (y_field fa_47_0 rfl) (fun w h => h) (fun w h => h) rfl (pk_seq (pk_blk (pk_seq (pk_loop (pk_blk (pk_seq pk_fn)))))) (by kernel_rfl) rfl ?_
       refine u_take (i := 13) rfl (wanted_yes rfl rfl) (y_loadr 0 ty_36 rfl rfl rfl) (fun w h => h) (fun w h => h) rfl (pk_seq (pk_blk (pk_seq (pk_loop (pk_blk (pk_seq pk_fn)))))) (by kernel_rfl) rfl ?_
       refine u_take (i := 14) rfl (wanted_yes rfl rfl) (y_neqs rfl rfl) (fun w h => h) (fun w h => h) rfl (pk_seq (pk_blk (pk_seq (pk_loop (pk_blk (pk_seq pk_fn)))))) (by kernel_rfl) rfl ?_
       refine wu_af (t := 80) rfl (fun h => h hq.2.2.1) ?_
       refine u_take (i := 15) rfl wanted_none (y_pick_f rfl rfl) (fun w h => h) (fun w h => h) rfl (pk_seq (pk_blk (pk_seq (pk_loop (pk_blk (pk_seq pk_fn)))))) (by kernel_rfl) rfl ?_
       refine u_take (i := 16) rfl wanted_none (y_move rfl) (fun w h => h) (fun w h => h) rfl (pk_seq (pk_blk (pk_seq (pk_loop (pk_blk (pk_seq pk_fn)))))) (by kernel_rfl) rfl ?_
       refine u_take (i := 17) rfl (wanted_yes rfl rfl) (y_field fa_38_0 rfl) (fun w h => h) (fun w h => h) rfl (pk_seq (pk_blk (pk_seq (pk_loop (pk_blk (pk_seq pk_fn)))))) (by kernel_rfl) rfl ?_
       refine u_take (i := 18) rfl (wanted_yes rfl rfl) (y_loadrs 1 ty_28 rfl rfl rfl rfl) (fun w h => h) (fun w h => h) rfl (pk_seq (pk_blk (pk_seq (pk_loop (pk_blk (pk_seq pk_fn)))))) (by kernel_rfl) rfl ?_
       refine u_take (i := 19) rfl (wanted_yes rfl rfl) (y_move rfl) (fun w h => h) (fun w h => h) rfl (pk_seq (pk_blk (pk_seq (pk_loop (pk_blk (pk_seq pk_fn)))))) (by kernel_rfl) rfl ?_
       refine u_take (i := 20) rfl (wanted_yes rfl rfl) (y_move rfl) (fun w h => h) (fun w h => h) rfl (pk_seq (pk_blk (pk_seq (pk_loop (pk_blk (pk_seq pk_fn)))))) (by kernel_rfl) rfl ?_
       refine u_take (i := 21) rfl (wanted_yes rfl rfl) (y_ixm  Tryz.underlying25 ty_42 rfl rfl (rs_S 2 rfl) rfl (by omega)) (fun w h => h) (fun w h => h) rfl (pk_seq (pk_blk (pk_seq (pk_loop (pk_blk (pk_seq pk_fn)))))) (by kernel_rfl) rfl ?_
       refine u_take (i := 22) rfl (wanted_yes rfl rfl) (y_field fa_42_1 rfl) (fun w h => h) (fun w h => h) rfl (pk_seq (pk_blk (pk_seq (pk_loop (pk_blk (pk_seq pk_fn)))))) (by kernel_rfl) rfl ?_
       refine u_take (i := 23) rfl (wanted_yes rfl rfl) (y_ldsm 1 enc_hd hd0 ty_28 rfl (rs_S 2 rfl) (by omega) rfl rfl rfl) (fun w h => h) (fun w h => h) rfl (pk_seq (pk_blk (pk_seq (pk_loop (pk_blk (pk_seq pk_fn)))))) (by kernel_rfl) rfl ?_
       refine u_take (i := 24) rfl (wanted_yes rfl rfl) (y_nestd (by kernel_rfl) rfl rfl (eqd_ad _ _) rfl) (fun w h => h) (fun w h => h) rfl (pk_seq (pk_blk (pk_seq (pk_loop (pk_blk (pk_seq pk_fn)))))) (by kernel_rfl) rfl ?_
       refine wu_af (t := 90) rfl (fun h => h hq.2.2.2) ?_
       refine u_take (i := 25) rfl wanted_none (y_pick_f rfl rfl) (fun w h => h) (fun w h => h) rfl (pk_seq (pk_blk (pk_seq (pk_loop (pk_blk (pk_seq pk_fn)))))) (by kernel_rfl) rfl ?_
       refine u_done (by kernel_rfl) ?_
       refine e_seq ?_
       refine w_cond_f rfl ?_
       refine w_skip ?_
       refine e_blk ?_
       refine e_seq ?_
       refine w_region ?_
       refine o_y (y_move rfl) rfl rfl ?_
       refine o_y (y_addi rfl rfl (by omega) (by omega)) rfl rfl ?_
       refine o_y (y_assign rfl) rfl rfl ?_
       refine wl_nil ?_
       refine e_back (i + 1) ?_ ?_ ⟨rfl, trivial⟩ (by repeat (first | exact trivial | refine ⟨rfl, ?_⟩)) (fun w h => h.weak (.cons _ (.cons _ (List.Sublist.refl _))) (fun s hs => hs))
       ·(show i + 1 ≤ hs.length; omega)
       ·omega
      ·skip
       refine w_seq ?_
       refine w_drawU 11 rfl mixed ?_
       refine u_take (i := 0) rfl wanted_none (y_loadrs 3 ty_24 rfl rfl rfl rfl) (fun w h => h) (fun w h => h) rfl (pk_seq (pk_blk (pk_seq (pk_loop (pk_blk (pk_seq pk_fn)))))) (by kernel_rfl) rfl ?_
       refine u_take (i := 1) rfl wanted_none (y_move rfl) (fun w h => h) (fun w h => h) rfl (pk_seq (pk_blk (pk_seq (pk_loop (pk_blk (pk_seq pk_fn)))))) (by kernel_rfl) rfl ?_
       refine u_take (i := 2) rfl wanted_none (y_move rfl) (fun w h => h) (fun w h => h) rfl (pk_seq (pk_blk (pk_seq (pk_loop (pk_blk (pk_seq pk_fn)))))) (by kernel_rfl) rfl ?_
       refine u_take (i := 3) rfl wanted_none (y_ixm  Tryz.underlying25 ty_42 rfl rfl (rs_S 2 rfl) rfl (by omega)) (fun w h => h) (fun w h => h) rfl (pk_seq (pk_blk (pk_seq (pk_loop (pk_blk (pk_seq pk_fn)))))) (by kernel_rfl) rfl ?_
       refine u_take (i := 4) rfl wanted_none (y_field fa_42_0 rfl) (fun w h => h) (fun w h => h) rfl (pk_seq (pk_blk (pk_seq (pk_loop (pk_blk (pk_seq pk_fn)))))) (by kernel_rfl) rfl ?_
       refine u_take (i := 5) rfl wanted_none (y_ldm0 enc_hd hd0 ty_36 rfl (rs_S 2 rfl) (by omega) rfl rfl) (fun w h => h) (fun w h => h) rfl (pk_seq (pk_blk (pk_seq (pk_loop (pk_blk (pk_seq pk_fn)))))) (by kernel_rfl) rfl ?_
       refine u_many (js := [6, 10]) (by kernel_rfl) rfl ?_
       refine wru_cons (i := 6) rfl rfl rfl (tame_call rfl ent_14) rfl ?_ ?_
       ·skip
        refine o_callr0 rfl ent_14 rfl (c_ref17_Find v l _ _ (hs.getD i hd0).host hok (by omega) (by omega) hT) (fun w hw => (rd_cons (rd_S 0 rfl hw) (rd_cons (rd_S 1 rfl hw) rd_nil))) (fun ⟨rb, hrb⟩ => ?_)
        refine wl_nil ?_
        refine eu_one (fun w h => h) ?_
        refine u_take (i := 7) rfl wanted_none (y_move rfl) (fun w h => h) (fun w h => h) rfl (pk_seq (pk_blk (pk_seq (pk_loop (pk_blk (pk_seq pk_fn)))))) (by kernel_rfl) rfl ?_
        refine u_take (i := 8) rfl wanted_none (y_extract rfl rfl) (fun w h => h) (fun w h => h) rfl (pk_seq (pk_blk (pk_seq (pk_loop (pk_blk (pk_seq pk_fn)))))) (by kernel_rfl) rfl ?_
        refine u_many (js := [9, 10]) (by kernel_rfl) rfl ?_
        refine wru_cons (i := 9) rfl rfl rfl (fun _ _ _ => tame_op (by kernel_rfl)) rfl ?_ ?_
        ·skip
         refine o_y (y_extract rfl rfl) rfl rfl ?_
         refine wl_nil ?_
         refine eu_one (fun w h => h) ?_
         refine u_one (i := 10) rfl rfl rfl (fun _ _ _ => tame_op (by kernel_rfl)) (by kernel_rfl) rfl ?_
         refine o_alloc ty_47 rfl rfl (fun b6 => ?_)
         refine wl_nil ?_
         refine eu_one (fun w h => h.weak (.cons _ (List.Sublist.refl _)) (fun s hs => hs)) ?_
         refine u_one (i := 11) rfl rfl rfl (fun _ _ _ => tame_op (by kernel_rfl)) (by kernel_rfl) rfl ?_
         refine o_store ty_47 rfl rfl rfl .z rfl rfl rfl rfl ?_
         refine wl_nil ?_
         refine eu_tail rfl ?_
         refine u_one (i := 12) rfl rfl rfl (fun _ _ _ => tame_op (by kernel_rfl)) (by kernel_rfl) rfl ?_
         refine o_y (y_assign rfl) rfl rfl ?_
         refine wl_nil ?_
         refine eu_tail rfl ?_
         refine u_done (by kernel_rfl) ?_
         refine e_seq ?_
         refine w_heap (fun w h => h.weak (.cons_cons _ (List.Sublist.refl _)) (fun s hs => hs)) ?_
         exact J12 (⟨rb, hrb⟩, b6) _ (by repeat (first | exact trivial | refine ⟨rfl, ?_⟩))
        refine wru_cons (i := 10) rfl rfl rfl (fun _ _ _ => tame_op (by kernel_rfl)) rfl ?_ ?_
        ·skip
         refine o_alloc ty_47 rfl rfl (fun b7 => ?_)
         refine wl_nil ?_
         refine eu_one (fun w h => h.weak (.cons _ (List.Sublist.refl _)) (fun s hs => hs)) ?_
         refine u_many (js := [9, 11]) (by kernel_rfl) rfl ?_
         refine wru_cons (i := 9) rfl rfl rfl (fun _ _ _ => tame_op (by kernel_rfl)) rfl ?_ ?_
         ·skip
          refine o_y (y_extract rfl rfl) rfl rfl ?_
          refine wl_nil ?_
          refine eu_one (fun w h => h.weak (.cons _ (List.Sublist.refl _)) (fun s hs => hs)) ?_
          refine u_one (i := 11) rfl rfl rfl (fun _ _ _ => tame_op (by kernel_rfl)) (by kernel_rfl) rfl ?_
          refine o_store ty_47 rfl rfl rfl .z rfl rfl rfl rfl ?_
          refine wl_nil ?_
          refine eu_tail rfl ?_
          refine u_one (i := 12) rfl rfl rfl (fun _ _ _ => tame_op (by kernel_rfl)) (by kernel_rfl) rfl ?_
          refine o_y (y_assign rfl) rfl rfl ?_
          refine wl_nil ?_
          refine eu_tail rfl ?_
          refine u_done (by kernel_rfl) ?_
          refine e_seq ?_
          refine w_heap (fun w h => h.weak (.cons_cons _ (List.Sublist.refl _)) (fun s hs => hs)) ?_
          exact J12 (⟨rb, hrb⟩, b7) _ (by repeat (first | exact trivial | refine ⟨rfl, ?_⟩))
         refine wru_cons (i := 11) rfl rfl rfl (fun _ _ _ => tame_op (by kernel_rfl)) rfl ?_ ?_
         ·skip
          refine o_store ty_47 rfl rfl rfl .z rfl rfl rfl rfl ?_
          refine wl_nil ?_
          refine eu_tail rfl ?_
          refine u_one (i := 9) rfl rfl rfl (fun _ _ _ => tame_op (by kernel_rfl)) (by kernel_rfl) rfl ?_
          refine o_y (y_extract rfl rfl) rfl rfl ?_
          refine wl_nil ?_
          refine eu_tail rfl ?_
          refine u_one (i := 12) rfl rfl rfl (fun _ _ _ => tame_op (by kernel_rfl)) (by kernel_rfl) rfl ?_
          refine o_y (y_assign rfl) rfl rfl ?_
          refine wl_nil ?_
          refine eu_tail rfl ?_
          refine u_done (by kernel_rfl) ?_
          refine e_seq ?_
          refine w_heap (fun w h => h.weak (.cons_cons _ (List.Sublist.refl _)) (fun s hs => hs)) ?_
          exact J12 (⟨rb, hrb⟩, b7) _ (by repeat (first | exact trivial | refine ⟨rfl, ?_⟩))
         exact wru_nil
        exact wru_nil
       refine wru_cons (i := 10) rfl rfl rfl (fun _ _ _ => tame_op (by kernel_rfl)) rfl ?_ ?_
       ·skip
        refine o_alloc ty_47 rfl rfl (fun b8 => ?_)
        refine wl_nil ?_
        refine eu_one (fun w h => h.weak (.cons _ (List.Sublist.refl _)) (fun s hs => hs)) ?_
        refine u_one (i := 6) rfl rfl rfl (tame_call rfl ent_14) (by kernel_rfl) rfl ?_
        refine o_callr0 rfl ent_14 rfl (c_ref17_Find v l _ _ (hs.getD i hd0).host hok (by omega) (by omega) hT) (fun w hw => (rd_cons (rd_S 0 rfl hw) (rd_cons (rd_S 1 rfl hw) rd_nil))) (fun ⟨rb, hrb⟩ => ?_)
        refine wl_nil ?_
        refine eu_one (fun w h => h.weak (.cons _ (List.Sublist.refl _)) (fun s hs => hs)) ?_
        refine u_take (i := 7) rfl wanted_none (y_move rfl) (fun w h => h.weak (.cons _ (List.Sublist.refl _)) (fun s hs => hs)) (fun w h => h) rfl (pk_seq (pk_blk (pk_seq (pk_loop (pk_blk (pk_seq pk_fn)))))) (by kernel_rfl) rfl ?_
        refine u_take (i := 8) rfl wanted_none (y_extract rfl rfl) (fun w h => h.weak (.cons _ (List.Sublist.refl _)) (fun s hs => hs)) (fun w h => h) rfl (pk_seq (pk_blk (pk_seq (pk_loop (pk_blk (pk_seq pk_fn)))))) (by kernel_rfl) rfl ?_
        refine u_many (js := [9, 11]) (by kernel_rfl) rfl ?_
        refine wru_cons (i := 9) rfl rfl rfl (fun _ _ _ => tame_op (by kernel_rfl)) rfl ?_ ?_
        ·skip
         refine o_y (y_extract rfl rfl) rfl rfl ?_
         refine wl_nil ?_
         refine eu_one (fun w h => h.weak (.cons _ (List.Sublist.refl _)) (fun s hs => hs)) ?_
         refine u_one (i := 11) rfl rfl rfl (fun _ _ _ => tame_op (by kernel_rfl)) (by kernel_rfl) rfl ?_
         refine o_store ty_47 rfl rfl rfl .z rfl rfl rfl rfl ?_
         refine wl_nil ?_
         refine eu_tail rfl ?_
         refine u_one (i := 12) rfl rfl rfl (fun _ _ _ => tame_op (by kernel_rfl)) (by kernel_rfl) rfl ?_
         refine o_y (y_assign rfl) rfl rfl ?_
         refine wl_nil ?_
         refine eu_tail rfl ?_
         refine u_done (by kernel_rfl) ?_
         refine e_seq ?_
         refine w_heap (fun w h => h.weak (.cons_cons _ (List.Sublist.refl _)) (fun s hs => hs)) ?_
         exact J12 (⟨rb, hrb⟩, b8) _ (by repeat (first | exact trivial | refine ⟨rfl, ?_⟩))
        refine wru_cons (i := 11) rfl rfl rfl (fun _ _ _ => tame_op (by kernel_rfl)) rfl ?_ ?_
        ·skip
         refine o_store ty_47 rfl rfl rfl .z rfl rfl rfl rfl ?_
         refine wl_nil ?_
         refine eu_tail rfl ?_
         refine u_one (i := 9) rfl rfl rfl (fun _ _ _ => tame_op (by kernel_rfl)) (by kernel_rfl) rfl ?_
         refine o_y (y_extract rfl rfl) rfl rfl ?_
         refine wl_nil ?_
         refine eu_tail rfl ?_
         refine u_one (i := 12) rfl rfl rfl (fun _ _ _ => tame_op (by kernel_rfl)) (by kernel_rfl) rfl ?_
         refine o_y (y_assign rfl) rfl rfl ?_
         refine wl_nil ?_
         refine eu_tail rfl ?_
         refine u_done (by kernel_rfl) ?_
         refine e_seq ?_
         refine w_heap (fun w h => h.weak (.cons_cons _ (List.Sublist.refl _)) (fun s hs => hs)) ?_
         exact J12 (⟨rb, hrb⟩, b8) _ (by repeat (first | exact trivial | refine ⟨rfl, ?_⟩))
        exact wru_nil
       exact wru_nil
     ·skip
      refine wl_nil ?_
      refine e_seq ?_
      refine w_cond_f rfl ?_
      refine w_exit ?_
      refine e_seq_exit ?_
      refine e_loop_exit ?_
      refine e_blk_hit ?_
      refine e_seq ?_
      refine w_seq ?_
      refine w_region ?_
      refine o_y (y_move rfl) rfl rfl ?_
      refine o_callr1 rfl ent_15 rfl (c_route_All ix l hs hix2 hok hhs (by omega)) (fun w hw => (rd_cons (rd_all (rd_L 0 rfl hw) (.head _)) (rd_cons (rd_all (rd_L 0 rfl hw) (.tail _ (.head _))) (rd_cons (rd_all (rd_L 0 rfl hw) (.tail _ (.tail _ (.head _)))) (rd_cons (rd_all (rd_L 0 rfl hw) (.tail _ (.tail _ (.tail _ (.head _))))) (rd_cons (rd_all (rd_L 0 rfl hw) (.tail _ (.tail _ (.tail _ (.tail _ (.head _)))))) (rd_cons (rd_sub (rd_L 0 rfl hw) (fun c hc => .tail _ (.tail _ (.tail _ (.tail _ (.tail _ hc)))))) rd_nil))))))) (fun ⟨⟨ys, Ay, cy⟩, hyp, hys⟩ => ?_)
      dsimp only at hyp hys
      have hA := all_okR hix2 hT hH hyp hys
      have hyl : ys.length ≤ 1000000 := by
        have h1 := hyp.length_eq
        have h2 := allM_len (ads_len hix hok) ix.l
        have h3 := ix_len hix
        rw [List.length_map] at h1
        omega
      refine o_y (y_assign rfl) rfl rfl ?_
      refine wl_nil ?_
      refine e_seq ?_
      refine w_seq ?_
      refine w_region ?_
      refine o_y (y_assign rfl) rfl rfl ?_
      refine wl_nil ?_
      refine e_seq ?_
      refine w_seq ?_
      refine w_seq ?_
      refine w_region ?_
      refine o_y (y_assign rfl) rfl rfl ?_
      refine wl_nil ?_
      refine e_seq ?_
      refine w_block ?_
      refine w_loop0 (σ := Nat × Bool) [6, 15, 16, 17, 18, 94, 95, 96, 97, 98, 99, 100, 101, 102, 103, 104, 105, 106, 107, 108, 109, 110, 111, 112, 113, 114, 115, 116, 117, 118, 119, 120, 121, 122, 123, 124, 125, 126, 127, 128, 129, 130, 131, 132, 133, 134, 135, 136, 137, 138, 139, 140, 141, 142, 143, 144, 145, 146, 147, 148] (fun q => q.1 ≤ ys.length ∧ q.2 = tld ys a q.1) (fun q => ys.length - q.1) (fun q => [(16, .int .i64 q.1), (15, .bool q.2)]) ((0, false)) ?_ ⟨rfl, rfl, trivial⟩ (fun q hI => ?_)
      ·exact ⟨Nat.zero_le _, rfl⟩
      obtain ⟨j, b⟩ := q
      dsimp only at hI ⊢
      refine w_seq ?_
      refine w_seq ?_
      refine w_region ?_
      refine o_y (y_move rfl) rfl rfl ?_
      refine o_y (y_move rfl) rfl rfl ?_
      refine o_y (y_lenl Tryz.underlying50 rfl) rfl rfl ?_
      refine o_y (y_lss rfl rfl) rfl rfl ?_
      refine wl_splitp (t := 97) rfl (fun h18_3 => ?_) (fun h18_3 => ?_)
      ·skip
       have hj : j < ys.length := by omega
       have hR := hA.fd _ (mem_getD (d := rt0) hj)
       refine wl_nil ?_
       refine e_seq ?_
       refine w_cond_t rfl ?_
       refine w_skip ?_
       refine e_seq ?_
       refine w_seq ?_
       refine w_block ?_
       refine w_seq ?_
       refine w_region ?_
       refine o_y (y_move rfl) rfl rfl ?_
       refine o_y (y_move rfl) rfl rfl ?_
       refine o_y (y_move rfl) rfl rfl ?_
       refine o_y (y_ixm  Tryz.underlying50 ty_38 rfl rfl (rs_L 0 rfl) rfl (by omega)) rfl rfl ?_
       refine o_y (y_field fa_38_0 rfl) rfl rfl ?_
       refine o_y (y_ldsm0 enc_rt rt0 ty_28 rfl (rs_L 0 rfl) (by omega) rfl rfl rfl) rfl rfl ?_
       refine o_callq rfl ent_13 rfl (c_route_Find ix (ys.getD j rt0).ad) (fun w hw => (rd_cons (rd_all (rd_L 1 rfl hw) (.head _)) (rd_cons (rd_all (rd_L 1 rfl hw) (.tail _ (.tail _ (.tail _ (.head _))))) rd_nil))) ?_
       refine o_y (y_move rfl) rfl rfl ?_
       refine o_y (y_extract rfl rfl) rfl rfl ?_
       refine o_y (y_extract rfl rfl) rfl rfl ?_
       refine o_alloc ty_38 rfl rfl (fun b11 => ?_)
       refine o_store ty_38 rfl rfl rfl .z rfl rfl rfl rfl ?_
       refine o_y (y_assign rfl) rfl rfl ?_
       refine wl_nil ?_
       refine e_seq ?_
       refine w_seq ?_
       refine w_seq ?_
       refine w_drawU 29 rfl mixed ?_
       refine u_take (i := 0) rfl wanted_none (y_move rfl) (fun w h => h) (fun w h => h) rfl (pk_seq (pk_seq (pk_blk (pk_seq (pk_loop (pk_blk (pk_seq pk_fn))))))) (by kernel_rfl) rfl ?_
       refine wu_as (t := 110) (.bool true) rfl (congrArg Value.bool hR.1) ?_
       refine u_take (i := 1) rfl wanted_none (y_not rfl) (fun w h => h) (fun w h => h) rfl (pk_seq (pk_seq (pk_blk (pk_seq (pk_loop (pk_blk (pk_seq pk_fn))))))) (by kernel_rfl) rfl ?_
       refine u_take (i := 2) rfl wanted_none (y_move rfl) (fun w h => h) (fun w h => h) rfl (pk_seq (pk_seq (pk_blk (pk_seq (pk_loop (pk_blk (pk_seq pk_fn))))))) (by kernel_rfl) rfl ?_
       refine u_take (i := 3) rfl (wanted_yes rfl rfl) (y_loadrs 0 ty_38 rfl rfl rfl rfl) (fun w h => h) (fun w h => h) rfl (pk_seq (pk_seq (pk_blk (pk_seq (pk_loop (pk_blk (pk_seq pk_fn))))))) (by kernel_rfl) rfl ?_
       refine u_take (i := 4) rfl (wanted_yes rfl rfl) (y_move rfl) (fun w h => h) (fun w h => h) rfl (pk_seq (pk_seq (pk_blk (pk_seq (pk_loop (pk_blk (pk_seq pk_fn))))))) (by kernel_rfl) rfl ?_
       refine u_take (i := 5) rfl (wanted_yes rfl rfl) (y_move rfl) (fun w h => h) (fun w h => h) rfl (pk_seq (pk_seq (pk_blk (pk_seq (pk_loop (pk_blk (pk_seq pk_fn))))))) (by kernel_rfl) rfl ?_
       refine u_take (i := 6) rfl (wanted_yes rfl rfl) (y_ixm  Tryz.underlying50 ty_38 rfl rfl (rs_L 1 rfl) rfl (by omega)) (fun w h => h) (fun w h => h) rfl (pk_seq (pk_seq (pk_blk (pk_seq (pk_loop (pk_blk (pk_seq pk_fn))))))) (by kernel_rfl) rfl ?_
       refine u_take (i := 7) rfl (wanted_yes rfl rfl) (y_ldsm0 enc_rt rt0 ty_38 rfl (rs_L 1 rfl) (by omega) rfl rfl rfl) (fun w h => h) (fun w h => h) rfl (pk_seq (pk_seq (pk_blk (pk_seq (pk_loop (pk_blk (pk_seq pk_fn))))))) (by kernel_rfl) rfl ?_
       refine u_take (i := 8) rfl (wanted_yes rfl rfl) (y_nestd (by kernel_rfl) rfl rfl (eqd_rt _ _) rfl) (fun w h => h) (fun w h => h) rfl (pk_seq (pk_seq (pk_blk (pk_seq (pk_loop (pk_blk (pk_seq pk_fn))))))) (by kernel_rfl) rfl ?_
       refine wu_af (t := 118) rfl (fun h => h hR.2) ?_
       refine u_take (i := 9) rfl wanted_none (y_pick_f rfl rfl) (fun w h => h) (fun w h => h) rfl (pk_seq (pk_seq (pk_blk (pk_seq (pk_loop (pk_blk (pk_seq pk_fn))))))) (by kernel_rfl) rfl ?_
       refine u_take (i := 10) rfl wanted_none (y_move rfl) (fun w h => h) (fun w h => h) rfl (pk_seq (pk_seq (pk_blk (pk_seq (pk_loop (pk_blk (pk_seq pk_fn))))))) (by kernel_rfl) rfl ?_
       refine u_take (i := 11) rfl (wanted_yes rfl rfl) (y_move rfl) (fun w h => h) (fun w h => h) rfl (pk_seq (pk_seq (pk_blk (pk_seq (pk_loop (pk_blk (pk_seq pk_fn))))))) (by kernel_rfl) rfl ?_
       refine u_take (i := 12) rfl (wanted_yes rfl rfl) (y_gtr rfl rfl) (fun w h => h) (fun w h => h) rfl (pk_seq (pk_seq (pk_blk (pk_seq (pk_loop (pk_blk (pk_seq pk_fn))))))) (by kernel_rfl) rfl ?_
       refine wu_splitp (t := 122) rfl (fun h21_12 => ?_) (fun h21_12 => ?_)
       ·skip
        refine u_take (i := 13) rfl (wanted_yes rfl rfl) (y_move rfl) (fun w h => h) (fun w h => h) rfl (pk_seq (pk_seq (pk_blk (pk_seq (pk_loop (pk_blk (pk_seq pk_fn))))))) (by kernel_rfl) rfl ?_
        refine u_take (i := 14) rfl (wanted_yes rfl rfl) (y_move rfl) (fun w h => h) (fun w h => h) rfl (pk_seq (pk_seq (pk_blk (pk_seq (pk_loop (pk_blk (pk_seq pk_fn))))))) (by kernel_rfl) rfl ?_
        refine u_take (i := 15) rfl (wanted_yes rfl rfl) (y_move rfl) (fun w h => h) (fun w h => h) rfl (pk_seq (pk_seq (pk_blk (pk_seq (pk_loop (pk_blk (pk_seq pk_fn))))))) (by kernel_rfl) rfl ?_
        refine u_take (i := 16) rfl (wanted_yes rfl rfl) (y_subi rfl rfl (by omega) (by omega)) (fun w h => h) (fun w h => h) rfl (pk_seq (pk_seq (pk_blk (pk_seq (pk_loop (pk_blk (pk_seq pk_fn))))))) (by kernel_rfl) rfl ?_
        refine u_take (i := 17) rfl (wanted_yes rfl rfl) (y_ixm (k := (j - 1)) Tryz.underlying50 ty_38 rfl rfl (rs_L 1 rfl) (by omega) (by omega)) (fun w h => h) (fun w h => h) rfl (pk_seq (pk_seq (pk_blk (pk_seq (pk_loop (pk_blk (pk_seq pk_fn))))))) (by kernel_rfl) rfl ?_
        refine u_take (i := 18) rfl (wanted_yes rfl rfl) (y_field fa_38_0 rfl) (fun w h => h) (fun w h => h) rfl (pk_seq (pk_seq (pk_blk (pk_seq (pk_loop (pk_blk (pk_seq pk_fn))))))) (by kernel_rfl) rfl ?_
        refine u_take (i := 19) rfl (wanted_yes rfl rfl) (y_ldsm0 enc_rt rt0 ty_28 rfl (rs_L 1 rfl) (by omega) rfl rfl rfl) (fun w h => h) (fun w h => h) rfl (pk_seq (pk_seq (pk_blk (pk_seq (pk_loop (pk_blk (pk_seq pk_fn))))))) (by kernel_rfl) rfl ?_
        refine u_take (i := 20) rfl (wanted_yes rfl rfl) (y_move rfl) (fun w h => h) (fun w h => h) rfl (pk_seq (pk_seq (pk_blk (pk_seq (pk_loop (pk_blk (pk_seq pk_fn))))))) (by kernel_rfl) rfl ?_
        refine u_take (i := 21) rfl (wanted_yes rfl rfl) (y_move rfl) (fun w h => h) (fun w h => h) rfl (pk_seq (pk_seq (pk_blk (pk_seq (pk_loop (pk_blk (pk_seq pk_fn))))))) (by kernel_rfl) rfl ?_
        refine u_take (i := 22) rfl (wanted_yes rfl rfl) (y_ixm  Tryz.underlying50 ty_38 rfl rfl (rs_L 1 rfl) rfl (by omega)) (fun w h => h) (fun w h => h) rfl (pk_seq (pk_seq (pk_blk (pk_seq (pk_loop (pk_blk (pk_seq pk_fn))))))) (by kernel_rfl) rfl ?_
        refine u_take (i := 23) rfl (wanted_yes rfl rfl) (y_field fa_38_0 rfl) (fun w h => h) (fun w h => h) rfl (pk_seq (pk_seq (pk_blk (pk_seq (pk_loop (pk_blk (pk_seq pk_fn))))))) (by kernel_rfl) rfl ?_
        refine u_take (i := 24) rfl (wanted_yes rfl rfl) (y_ldsm0 enc_rt rt0 ty_28 rfl (rs_L 1 rfl) (by omega) rfl rfl rfl) (fun w h => h) (fun w h => h) rfl (pk_seq (pk_seq (pk_blk (pk_seq (pk_loop (pk_blk (pk_seq pk_fn))))))) (by kernel_rfl) rfl ?_
        refine u_one (i := 25) rfl rfl rfl (tame_call rfl ent_16) (by kernel_rfl) rfl ?_
        refine wl_gyes rfl rfl ?_
        refine o_callp rfl ent_16 (c_Cmp04 _ _) rfl ?_
        refine wl_nil ?_
        refine eu_one (fun w h => h) ?_
        refine u_take (i := 26) rfl (wanted_yes rfl rfl) (y_geq rfl rfl) (fun w h => h) (fun w h => h) rfl (pk_seq (pk_seq (pk_blk (pk_seq (pk_loop (pk_blk (pk_seq pk_fn))))))) (by kernel_rfl) rfl ?_
        refine wu_af (t := 136) rfl (by have := up_at hA.up (j := j) (by omega) hj; omega) ?_
        refine u_take (i := 27) rfl (wanted_yes rfl rfl) (y_pick_t rfl rfl) (fun w h => h) (fun w h => h) rfl (pk_seq (pk_seq (pk_blk (pk_seq (pk_loop (pk_blk (pk_seq pk_fn))))))) (by kernel_rfl) rfl ?_
        refine u_take (i := 28) rfl wanted_none (y_pick_f rfl rfl) (fun w h => h) (fun w h => h) rfl (pk_seq (pk_seq (pk_blk (pk_seq (pk_loop (pk_blk (pk_seq pk_fn))))))) (by kernel_rfl) rfl ?_
        refine u_done (by kernel_rfl) ?_
        refine e_seq ?_
        refine w_cond_f rfl ?_
        refine w_skip ?_
        refine e_seq ?_
        refine w_drawU 11 rfl mixed ?_
        refine u_take (i := 0) rfl wanted_none (y_move rfl) (fun w h => h) (fun w h => h) rfl (pk_blk (pk_seq (pk_loop (pk_blk (pk_seq pk_fn))))) (by kernel_rfl) rfl ?_
        refine wu_splitb (t := 139) rfl (fun h23_0 => ?_) (fun h23_0 => ?_)
        ·skip
         refine u_take (i := 1) rfl wanted_none (y_move rfl) (fun w h => h) (fun w h => h) rfl (pk_blk (pk_seq (pk_loop (pk_blk (pk_seq pk_fn))))) (by kernel_rfl) rfl ?_
         refine u_skip (i := 2) rfl (wanted_no rfl rfl rfl) (fun w h => h) rfl (pk_blk (pk_seq (pk_loop (pk_blk (pk_seq pk_fn))))) (by kernel_rfl) rfl ?_
         refine u_skip (i := 3) rfl (wanted_no rfl rfl rfl) (fun w h => h) rfl (pk_blk (pk_seq (pk_loop (pk_blk (pk_seq pk_fn))))) (by kernel_rfl) rfl ?_
         refine u_skip (i := 4) rfl (wanted_no rfl rfl rfl) (fun w h => h) rfl (pk_blk (pk_seq (pk_loop (pk_blk (pk_seq pk_fn))))) (by kernel_rfl) rfl ?_
         refine u_skip (i := 5) rfl (wanted_no rfl rfl rfl) (fun w h => h) rfl (pk_blk (pk_seq (pk_loop (pk_blk (pk_seq pk_fn))))) (by kernel_rfl) rfl ?_
         refine u_skip (i := 6) rfl (wanted_no rfl rfl rfl) (fun w h => h) rfl (pk_blk (pk_seq (pk_loop (pk_blk (pk_seq pk_fn))))) (by kernel_rfl) rfl ?_
         refine u_skip (i := 7) rfl (wanted_no rfl rfl rfl) (fun w h => h) rfl (pk_blk (pk_seq (pk_loop (pk_blk (pk_seq pk_fn))))) (by kernel_rfl) rfl ?_
         refine u_skip (i := 8) rfl (wanted_no rfl rfl rfl) (fun w h => h) rfl (pk_blk (pk_seq (pk_loop (pk_blk (pk_seq pk_fn))))) (by kernel_rfl) rfl ?_
         refine u_take (i := 9) rfl wanted_none (y_pick_t rfl rfl) (fun w h => h) (fun w h => h) rfl (pk_blk (pk_seq (pk_loop (pk_blk (pk_seq pk_fn))))) (by kernel_rfl) rfl ?_
         refine u_take (i := 10) rfl wanted_none (y_assign rfl) (fun w h => h) (fun w h => h) rfl (pk_blk (pk_seq (pk_loop (pk_blk (pk_seq pk_fn))))) (by kernel_rfl) rfl ?_
         refine u_done (by kernel_rfl) ?_
         refine e_blk ?_
         refine e_seq ?_
         refine w_region ?_
         refine o_y (y_move rfl) rfl rfl ?_
         refine o_y (y_addi rfl rfl (by omega) (by omega)) rfl rfl ?_
         refine o_y (y_assign rfl) rfl rfl ?_
         refine wl_nil ?_
         refine e_back ((j + 1, true)) ?_ ?_ ⟨rfl, rfl, trivial⟩ (by repeat (first | exact trivial | refine ⟨rfl, ?_⟩)) (fun w h => h.weak (.cons _ (List.Sublist.refl _)) (fun s hs => hs))
         ·exact ⟨by show j + 1 ≤ _; omega, by show _ = tld ys a (j + 1); rw [tld_step hj, ← hI.2, h23_0]; first | done | rfl⟩
         ·show ys.length - (j + 1) < ys.length - j
          omega
        ·skip
         refine u_take (i := 1) rfl wanted_none (y_move rfl) (fun w h => h) (fun w h => h) rfl (pk_blk (pk_seq (pk_loop (pk_blk (pk_seq pk_fn))))) (by kernel_rfl) rfl ?_
         refine u_take (i := 2) rfl (wanted_yes rfl rfl) (y_move rfl) (fun w h => h) (fun w h => h) rfl (pk_blk (pk_seq (pk_loop (pk_blk (pk_seq pk_fn))))) (by kernel_rfl) rfl ?_
         refine u_take (i := 3) rfl (wanted_yes rfl rfl) (y_move rfl) (fun w h => h) (fun w h => h) rfl (pk_blk (pk_seq (pk_loop (pk_blk (pk_seq pk_fn))))) (by kernel_rfl) rfl ?_
         refine u_take (i := 4) rfl (wanted_yes rfl rfl) (y_ixm  Tryz.underlying50 ty_38 rfl rfl (rs_L 1 rfl) rfl (by omega)) (fun w h => h) (fun w h => h) rfl (pk_blk (pk_seq (pk_loop (pk_blk (pk_seq pk_fn))))) (by kernel_rfl) rfl ?_
         refine u_take (i := 5) rfl (wanted_yes rfl rfl) (y_field fa_38_0 rfl) (fun w h => h) (fun w h => h) rfl (pk_blk (pk_seq (pk_loop (pk_blk (pk_seq pk_fn))))) (by kernel_rfl) rfl ?_
         refine u_take (i := 6) rfl (wanted_yes rfl rfl) (y_ldsm0 enc_rt rt0 ty_28 rfl (rs_L 1 rfl) (by omega) rfl rfl rfl) (fun w h => h) (fun w h => h) rfl (pk_blk (pk_seq (pk_loop (pk_blk (pk_seq pk_fn))))) (by kernel_rfl) rfl ?_
         refine u_take (i := 7) rfl (wanted_yes rfl rfl) (y_loadrs 3 ty_28 rfl rfl rfl rfl) (fun w h => h) (fun w h => h) rfl (pk_blk (pk_seq (pk_loop (pk_blk (pk_seq pk_fn))))) (by kernel_rfl) rfl ?_
         refine u_take (i := 8) rfl (wanted_yes rfl rfl) (y_eqst (by kernel_rfl) rfl rfl (eqd_ad _ _) rfl) (fun w h => h) (fun w h => h) rfl (pk_blk (pk_seq (pk_loop (pk_blk (pk_seq pk_fn))))) (by kernel_rfl) rfl ?_
         refine u_take (i := 9) rfl wanted_none (y_pick_f rfl rfl) (fun w h => h) (fun w h => h) rfl (pk_blk (pk_seq (pk_loop (pk_blk (pk_seq pk_fn))))) (by kernel_rfl) rfl ?_
         refine u_take (i := 10) rfl wanted_none (y_assign rfl) (fun w h => h) (fun w h => h) rfl (pk_blk (pk_seq (pk_loop (pk_blk (pk_seq pk_fn))))) (by kernel_rfl) rfl ?_
         refine u_done (by kernel_rfl) ?_
         refine e_blk ?_
         refine e_seq ?_
         refine w_region ?_
         refine o_y (y_move rfl) rfl rfl ?_
         refine o_y (y_addi rfl rfl (by omega) (by omega)) rfl rfl ?_
         refine o_y (y_assign rfl) rfl rfl ?_
         refine wl_nil ?_
         refine e_back ((j + 1, decide ((ys.getD j rt0).ad = a))) ?_ ?_ ⟨rfl, rfl, trivial⟩ (by repeat (first | exact trivial | refine ⟨rfl, ?_⟩)) (fun w h => h.weak (.cons _ (List.Sublist.refl _)) (fun s hs => hs))
         ·exact ⟨by show j + 1 ≤ _; omega, by show _ = tld ys a (j + 1); rw [tld_step hj, ← hI.2, h23_0]; first | done | rfl⟩
         ·show ys.length - (j + 1) < ys.length - j
          omega
       ·skip
        refine u_take (i := 13) rfl (wanted_yes rfl rfl) (y_move rfl) (fun w h => h) (fun w h => h) rfl (pk_seq (pk_seq (pk_blk (pk_seq (pk_loop (pk_blk (pk_seq pk_fn))))))) (by kernel_rfl) rfl ?_
        refine u_skip (i := 14) rfl (wanted_no rfl rfl rfl) (fun w h => h) rfl (pk_seq (pk_seq (pk_blk (pk_seq (pk_loop (pk_blk (pk_seq pk_fn))))))) (by kernel_rfl) rfl ?_
        refine u_skip (i := 15) rfl (wanted_no rfl rfl rfl) (fun w h => h) rfl (pk_seq (pk_seq (pk_blk (pk_seq (pk_loop (pk_blk (pk_seq pk_fn))))))) (by kernel_rfl) rfl ?_
        refine u_skip (i := 16) rfl (wanted_no rfl rfl rfl) (fun w h => h) rfl (pk_seq (pk_seq (pk_blk (pk_seq (pk_loop (pk_blk (pk_seq pk_fn))))))) (by kernel_rfl) rfl ?_
        refine u_skip (i := 17) rfl (wanted_no rfl rfl rfl) (fun w h => h) rfl (pk_seq (pk_seq (pk_blk (pk_seq (pk_loop (pk_blk (pk_seq pk_fn))))))) (by kernel_rfl) rfl ?_
        refine u_skip (i := 18) rfl (wanted_no rfl rfl rfl) (fun w h => h) rfl (pk_seq (pk_seq (pk_blk (pk_seq (pk_loop (pk_blk (pk_seq pk_fn))))))) (by kernel_rfl) rfl ?_
        refine u_skip (i := 19) rfl (wanted_no rfl rfl rfl) (fun w h => h) rfl (pk_seq (pk_seq (pk_blk (pk_seq (pk_loop (pk_blk (pk_seq pk_fn))))))) (by kernel_rfl) rfl ?_
        refine u_skip (i := 20) rfl (wanted_no rfl rfl rfl) (fun w h => h) rfl (pk_seq (pk_seq (pk_blk (pk_seq (pk_loop (pk_blk (pk_seq pk_fn))))))) (by kernel_rfl) rfl ?_
        refine u_skip (i := 21) rfl (wanted_no rfl rfl rfl) (fun w h => h) rfl (pk_seq (pk_seq (pk_blk (pk_seq (pk_loop (pk_blk (pk_seq pk_fn))))))) (by kernel_rfl) rfl ?_
        refine u_skip (i := 22) rfl (wanted_no rfl rfl rfl) (fun w h => h) rfl (pk_seq (pk_seq (pk_blk (pk_seq (pk_loop (pk_blk (pk_seq pk_fn))))))) (by kernel_rfl) rfl ?_
        refine u_skip (i := 23) rfl (wanted_no rfl rfl rfl) (fun w h => h) rfl (pk_seq (pk_seq (pk_blk (pk_seq (pk_loop (pk_blk (pk_seq pk_fn))))))) (by kernel_rfl) rfl ?_
        refine u_skip (i := 24) rfl (wanted_no rfl rfl rfl) (fun w h => h) rfl (pk_seq (pk_seq (pk_blk (pk_seq (pk_loop (pk_blk (pk_seq pk_fn))))))) (by kernel_rfl) rfl ?_
        refine u_skip (i := 25) rfl (wanted_no rfl rfl rfl) (fun w h => h) rfl (pk_seq (pk_seq (pk_blk (pk_seq (pk_loop (pk_blk (pk_seq pk_fn))))))) (by kernel_rfl) rfl ?_
        refine u_skip (i := 26) rfl (wanted_no rfl rfl rfl) (fun w h => h) rfl (pk_seq (pk_seq (pk_blk (pk_seq (pk_loop (pk_blk (pk_seq pk_fn))))))) (by kernel_rfl) rfl ?_
        refine u_take (i := 27) rfl (wanted_yes rfl rfl) (y_pick_f rfl rfl) (fun w h => h) (fun w h => h) rfl (pk_seq (pk_seq (pk_blk (pk_seq (pk_loop (pk_blk (pk_seq pk_fn))))))) (by kernel_rfl) rfl ?_
        refine u_take (i := 28) rfl wanted_none (y_pick_f rfl rfl) (fun w h => h) (fun w h => h) rfl (pk_seq (pk_seq (pk_blk (pk_seq (pk_loop (pk_blk (pk_seq pk_fn))))))) (by kernel_rfl) rfl ?_
        refine u_done (by kernel_rfl) ?_
        refine e_seq ?_
        refine w_cond_f rfl ?_
        refine w_skip ?_
        refine e_seq ?_
        refine w_drawU 11 rfl mixed ?_
        refine u_take (i := 0) rfl wanted_none (y_move rfl) (fun w h => h) (fun w h => h) rfl (pk_blk (pk_seq (pk_loop (pk_blk (pk_seq pk_fn))))) (by kernel_rfl) rfl ?_
        refine wu_splitb (t := 139) rfl (fun h23_0 => ?_) (fun h23_0 => ?_)
        ·skip
         refine u_take (i := 1) rfl wanted_none (y_move rfl) (fun w h => h) (fun w h => h) rfl (pk_blk (pk_seq (pk_loop (pk_blk (pk_seq pk_fn))))) (by kernel_rfl) rfl ?_
         refine u_skip (i := 2) rfl (wanted_no rfl rfl rfl) (fun w h => h) rfl (pk_blk (pk_seq (pk_loop (pk_blk (pk_seq pk_fn))))) (by kernel_rfl) rfl ?_
         refine u_skip (i := 3) rfl (wanted_no rfl rfl rfl) (fun w h => h) rfl (pk_blk (pk_seq (pk_loop (pk_blk (pk_seq pk_fn))))) (by kernel_rfl) rfl ?_
         refine u_skip (i := 4) rfl (wanted_no rfl rfl rfl) (fun w h => h) rfl (pk_blk (pk_seq (pk_loop (pk_blk (pk_seq pk_fn))))) (by kernel_rfl) rfl ?_
         refine u_skip (i := 5) rfl (wanted_no rfl rfl rfl) (fun w h => h) rfl (pk_blk (pk_seq (pk_loop (pk_blk (pk_seq pk_fn))))) (by kernel_rfl) rfl ?_
         refine u_skip (i := 6) rfl (wanted_no rfl rfl rfl) (fun w h => h) rfl (pk_blk (pk_seq (pk_loop (pk_blk (pk_seq pk_fn))))) (by kernel_rfl) rfl ?_
         refine u_skip (i := 7) rfl (wanted_no rfl rfl rfl) (fun w h => h) rfl (pk_blk (pk_seq (pk_loop (pk_blk (pk_seq pk_fn))))) (by kernel_rfl) rfl ?_
         refine u_skip (i := 8) rfl (wanted_no rfl rfl rfl) (fun w h => h) rfl (pk_blk (pk_seq (pk_loop (pk_blk (pk_seq pk_fn))))) (by kernel_rfl) rfl ?_
         refine u_take (i := 9) rfl wanted_none (y_pick_t rfl rfl) (fun w h => h) (fun w h => h) rfl (pk_blk (pk_seq (pk_loop (pk_blk (pk_seq pk_fn))))) (by kernel_rfl) rfl ?_
         refine u_take (i := 10) rfl wanted_none (y_assign rfl) (fun w h => h) (fun w h => h) rfl (pk_blk (pk_seq (pk_loop (pk_blk (pk_seq pk_fn))))) (by kernel_rfl) rfl ?_
         refine u_done (by kernel_rfl) ?_
         refine e_blk ?_
         refine e_seq ?_
         refine w_region ?_
         refine o_y (y_move rfl) rfl rfl ?_
         refine o_y (y_addi rfl rfl (by omega) (by omega)) rfl rfl ?_
         refine o_y (y_assign rfl) rfl rfl ?_
         refine wl_nil ?_
         refine e_back ((j + 1, true)) ?_ ?_ ⟨rfl, rfl, trivial⟩ (by repeat (first | exact trivial | refine ⟨rfl, ?_⟩)) (fun w h => h.weak (.cons _ (List.Sublist.refl _)) (fun s hs => hs))
         ·exact ⟨by show j + 1 ≤ _; omega, by show _ = tld ys a (j + 1); rw [tld_step hj, ← hI.2, h23_0]; first | done | rfl⟩
         ·show ys.length - (j + 1) < ys.length - j
          omega
        ·skip
         refine u_take (i := 1) rfl wanted_none (y_move rfl) (fun w h => h) (fun w h => h) rfl (pk_blk (pk_seq (pk_loop (pk_blk (pk_seq pk_fn))))) (by kernel_rfl) rfl ?_
         refine u_take (i := 2) rfl (wanted_yes rfl rfl) (y_move rfl) (fun w h => h) (fun w h => h) rfl (pk_blk (pk_seq (pk_loop (pk_blk (pk_seq pk_fn))))) (by kernel_rfl) rfl ?_
         refine u_take (i := 3) rfl (wanted_yes rfl rfl) (y_move rfl) (fun w h => h) (fun w h => h) rfl (pk_blk (pk_seq (pk_loop (pk_blk (pk_seq pk_fn))))) (by kernel_rfl) rfl ?_
         refine u_take (i := 4) rfl (wanted_yes rfl rfl) (y_ixm  Tryz.underlying50 ty_38 rfl rfl (rs_L 1 rfl) rfl (by omega)) (fun w h => h) (fun w h => h) rfl (pk_blk (pk_seq (pk_loop (pk_blk (pk_seq pk_fn))))) (by kernel_rfl) rfl ?_
         refine u_take (i := 5) rfl (wanted_yes rfl rfl) (y_field fa_38_0 rfl) (fun w h => h) (fun w h => h) rfl (pk_blk (pk_seq (pk_loop (pk_blk (pk_seq pk_fn))))) (by kernel_rfl) rfl ?_
         refine u_take (i := 6) rfl (wanted_yes rfl rfl) (y_ldsm0 enc_rt rt0 ty_28 rfl (rs_L 1 rfl) (by omega) rfl rfl rfl) (fun w h => h) (fun w h => h) rfl (pk_blk (pk_seq (pk_loop (pk_blk (pk_seq pk_fn))))) (by kernel_rfl) rfl ?_
         refine u_take (i := 7) rfl (wanted_yes rfl rfl) (y_loadrs 3 ty_28 rfl rfl rfl rfl) (fun w h => h) (fun w h => h) rfl (pk_blk (pk_seq (pk_loop (pk_blk (pk_seq pk_fn))))) (by kernel_rfl) rfl ?_
         refine u_take (i := 8) rfl (wanted_yes rfl rfl) (y_eqst (by kernel_rfl) rfl rfl (eqd_ad _ _) rfl) (fun w h => h) (fun w h => h) rfl (pk_blk (pk_seq (pk_loop (pk_blk (pk_seq pk_fn))))) (by kernel_rfl) rfl ?_
         refine u_take (i := 9) rfl wanted_none (y_pick_f rfl rfl) (fun w h => h) (fun w h => h) rfl (pk_blk (pk_seq (pk_loop (pk_blk (pk_seq pk_fn))))) (by kernel_rfl) rfl ?_
         refine u_take (i := 10) rfl wanted_none (y_assign rfl) (fun w h => h) (fun w h => h) rfl (pk_blk (pk_seq (pk_loop (pk_blk (pk_seq pk_fn))))) (by kernel_rfl) rfl ?_
         refine u_done (by kernel_rfl) ?_
         refine e_blk ?_
         refine e_seq ?_
         refine w_region ?_
         refine o_y (y_move rfl) rfl rfl ?_
         refine o_y (y_addi rfl rfl (by omega) (by omega)) rfl rfl ?_
         refine o_y (y_assign rfl) rfl rfl ?_
         refine wl_nil ?_
         refine e_back ((j + 1, decide ((ys.getD j rt0).ad = a))) ?_ ?_ ⟨rfl, rfl, trivial⟩ (by repeat (first | exact trivial | refine ⟨rfl, ?_⟩)) (fun w h => h.weak (.cons _ (List.Sublist.refl _)) (fun s hs => hs))
         ·exact ⟨by show j + 1 ≤ _; omega, by show _ = tld ys a (j + 1); rw [tld_step hj, ← hI.2, h23_0]; first | done | rfl⟩
         ·show ys.length - (j + 1) < ys.length - j
          omega
      ·skip
       refine wl_nil ?_
       refine e_seq ?_
       refine w_cond_f rfl ?_
       refine w_exit ?_
       refine e_seq_exit ?_
       refine e_loop_exit ?_
       refine e_blk_hit ?_
       refine e_seq ?_
       refine w_seq ?_
       refine w_region ?_
       refine o_y (y_move rfl) rfl rfl ?_
       refine o_y (y_loadrs 2 ty_28 rfl rfl rfl rfl) rfl rfl ?_
       refine o_callq rfl ent_13 rfl (c_route_Find ix a) (fun w hw => (rd_cons (rd_all (rd_L 1 rfl hw) (.head _)) (rd_cons (rd_all (rd_L 1 rfl hw) (.tail _ (.tail _ (.tail _ (.head _))))) rd_nil))) ?_
       refine o_y (y_move rfl) rfl rfl ?_
       refine o_y (y_extract rfl rfl) rfl rfl ?_
       refine o_y (y_extract rfl rfl) rfl rfl ?_
       refine o_alloc ty_38 rfl rfl (fun b12 => ?_)
       refine o_store ty_38 rfl rfl rfl .z rfl rfl rfl rfl ?_
       refine o_y (y_assign rfl) rfl rfl ?_
       refine wl_nil ?_
       refine e_seq ?_
       refine w_seq ?_
       have hb25 : (lkp ix.am a).isSome = b := by rw [hI.2, hA.told a, tld, List.take_of_length_le (by omega)]
       have hln := hA.len
       refine w_region ?_
       refine o_y (y_move rfl) rfl rfl ?_
       refine o_y (y_move rfl) rfl rfl ?_
       refine o_y (y_eqlb Tryz.underlying4 rfl rfl) rfl rfl ?_
       refine wl_at (t := 157) rfl hb25 ?_
       refine o_y (y_move rfl) rfl rfl ?_
       refine wl_gyes rfl rfl ?_
       refine o_y (y_move rfl) rfl rfl ?_
       refine wl_gyes rfl rfl ?_
       refine o_y (y_lenl Tryz.underlying50 rfl) rfl rfl ?_
       refine wl_gyes rfl rfl ?_
       refine o_y (y_move rfl) rfl rfl ?_
       refine wl_gyes rfl rfl ?_
       refine o_y (y_lenl Tryz.underlying25 rfl) rfl rfl ?_
       refine wl_gyes rfl rfl ?_
       refine o_y (y_geq rfl rfl) rfl rfl ?_
       refine wl_at (t := 163) rfl (by omega) ?_
       refine o_y (y_pick_t rfl rfl) rfl rfl ?_
       refine o_y (y_assign rfl) rfl rfl ?_
       refine wl_nil ?_
       refine e_seq ?_
       refine w_ret ?_
       refine e_ret (ts := [6]) rfl rfl rfl (fun w hw => ?_)
       exact ⟨(), rfl, hw.base, (hw.weak (List.nil_sublist _) (fun s hs => hs)).toNews⟩
   ·skip
    refine wl_gyes rfl rfl ?_
    refine o_y (y_not rfl) rfl rfl ?_
    refine o_y (y_pick_f rfl rfl) rfl rfl ?_
    refine wl_nil ?_
    refine e_seq ?_
    refine w_cond_t rfl ?_
    refine w_seq ?_
    refine w_region ?_
    refine o_y (y_assign rfl) rfl rfl ?_
    refine wl_nil ?_
    refine e_seq ?_
    refine w_ret ?_
    refine e_seq_ret ?_
    refine e_ret (ts := [6]) rfl rfl rfl (fun w hw => ?_)
    exact ⟨(), rfl, hw.base, (hw.weak (List.nil_sublist _) (fun s hs => hs)).toNews⟩
  ·skip
   refine o_y (y_not rfl) rfl rfl ?_
   refine o_y (y_move rfl) rfl rfl ?_
   refine wl_gno rfl rfl rfl rfl ?_
   refine wl_gno rfl rfl rfl rfl ?_
   refine wl_gno rfl rfl rfl rfl ?_
   refine o_y (y_pick_t rfl rfl) rfl rfl ?_
   refine wl_nil ?_
   refine e_seq ?_
   refine w_cond_t rfl ?_
   refine w_seq ?_
   refine w_region ?_
   refine o_y (y_assign rfl) rfl rfl ?_
   refine wl_nil ?_
   refine e_seq ?_
   refine w_ret ?_
   refine e_seq_ret ?_
   refine e_ret (ts := [6]) rfl rfl rfl (fun w hw => ?_)
   exact ⟨(), rfl, hw.base, (hw.weak (List.nil_sublist _) (fun s hs => hs)).toNews⟩
 ·skip
  refine w_seq ?_
  refine w_region ?_
  refine o_box rfl rfl rfl (fun b13 => ?_)
  refine o_box rfl rfl rfl (fun b14 => ?_)
  refine o_y (y_assign rfl) rfl rfl ?_
  refine wl_nil ?_
  refine e_seq ?_
  refine w_seq ?_
  refine w_seq ?_
  refine w_region ?_
  refine o_callp rfl ent_9 c_lives19 rfl ?_
  refine wl_as (t := 21) (.bool true) rfl (congrArg Value.bool rfl) ?_
  refine o_y (y_not rfl) rfl rfl ?_
  refine wl_nil ?_
  refine e_seq ?_
  refine w_cond_f rfl ?_
  refine w_skip ?_
  refine e_seq ?_
  refine w_seq ?_
  refine w_seq ?_
  refine w_region ?_
  refine o_y (y_field fa_24_1 rfl) rfl rfl ?_
  refine o_y (y_loadr 1 ty_22 rfl rfl rfl) rfl rfl ?_
  refine o_callq rfl ent_10 rfl (c_LightEntries _ _ _ _ (by omega)) (fun w hw => (rd_cons (rd_S 0 rfl hw) rd_nil)) ?_
  refine wl_splitb (t := 25) rfl (fun h3_2 => ?_) (fun h3_2 => ?_)
  ·skip
   have hle9 := lightEs_le h3_2
   have hok : TbOk l := fun x hx => ⟨hen x hx, hle9.1 x hx⟩
   have hl9 := hle9.2
   refine o_y (y_not rfl) rfl rfl ?_
   refine o_y (y_move rfl) rfl rfl ?_
   refine wl_gyes rfl rfl ?_
   refine o_y (y_move rfl) rfl rfl ?_
   refine wl_gyes rfl rfl ?_
   refine o_callq rfl ent_11 rfl (c_LightHeld _ _ _ _ (by omega)) (fun w hw => (rd_cons (rd_S 2 rfl hw) rd_nil)) ?_
   refine wl_splitb (t := 29) rfl (fun h3_6 => ?_) (fun h3_6 => ?_)
   ·skip
    have hlh := lightHs_le h3_6
    have hlh2 := hlh.2
    have hhs : ∀ h ∈ hs, 0 ≤ h.ad.lo := fun h hh => (hhen h hh).2.2.2.1
    have hhh : ∀ h ∈ hs, h.host.length ≤ 1000 ∧ 0 ≤ h.ad.lo := fun h hh => ⟨by have := hlh.1 h hh; omega, hhs h hh⟩
    refine wl_gyes rfl rfl ?_
    refine o_y (y_not rfl) rfl rfl ?_
    refine o_y (y_pick_f rfl rfl) rfl rfl ?_
    refine wl_nil ?_
    refine e_seq ?_
    refine w_cond_f rfl ?_
    refine w_skip ?_
    refine e_seq ?_
    refine w_seq ?_
    refine w_region ?_
    refine o_y (y_loadrs 1 ty_24 rfl rfl rfl rfl) rfl rfl ?_
    refine o_y (y_move rfl) rfl rfl ?_
    refine o_callq rfl ent_12 rfl (c_index_Newbad v l _ _ hok (by omega) hT _ _ _) (fun w hw => (rd_cons (rd_S 0 rfl hw) (rd_cons (rd_S 1 rfl hw) rd_nil))) ?_
    refine o_y (y_move rfl) rfl rfl ?_
    refine o_y (y_extract rfl rfl) rfl rfl ?_
    refine o_y (y_extract rfl rfl) rfl rfl ?_
    refine o_y (y_assign rfl) rfl rfl ?_
    refine o_y (y_assign rfl) rfl rfl ?_
    refine wl_nil ?_
    refine e_seq ?_
    refine w_seq ?_
    refine w_seq ?_
    refine w_region ?_
    refine o_y (y_move rfl) rfl rfl ?_
    refine o_y (y_neq rfl rfl) rfl rfl ?_
    refine wl_at (t := 39) rfl hT ?_
    refine wl_nil ?_
    refine e_seq ?_
    refine w_cond_t rfl ?_
    refine w_seq ?_
    refine w_region ?_
    refine o_y (y_assign rfl) rfl rfl ?_
    refine wl_nil ?_
    refine e_seq ?_
    refine w_ret ?_
    refine e_seq_ret ?_
    refine e_ret (ts := [6]) rfl rfl rfl (fun w hw => ?_)
    exact ⟨(), rfl, hw.base, (hw.weak (List.nil_sublist _) (fun s hs => hs)).toNews⟩
   ·skip
    refine wl_gyes rfl rfl ?_
    refine o_y (y_not rfl) rfl rfl ?_
    refine o_y (y_pick_f rfl rfl) rfl rfl ?_
    refine wl_nil ?_
    refine e_seq ?_
    refine w_cond_t rfl ?_
    refine w_seq ?_
    refine w_region ?_
    refine o_y (y_assign rfl) rfl rfl ?_
    refine wl_nil ?_
    refine e_seq ?_
    refine w_ret ?_
    refine e_seq_ret ?_
    refine e_ret (ts := [6]) rfl rfl rfl (fun w hw => ?_)
    exact ⟨(), rfl, hw.base, (hw.weak (List.nil_sublist _) (fun s hs => hs)).toNews⟩
  ·skip
   refine o_y (y_not rfl) rfl rfl ?_
   refine o_y (y_move rfl) rfl rfl ?_
   refine wl_gno rfl rfl rfl rfl ?_
   refine wl_gno rfl rfl rfl rfl ?_
   refine wl_gno rfl rfl rfl rfl ?_
   refine o_y (y_pick_t rfl rfl) rfl rfl ?_
   refine wl_nil ?_
   refine e_seq ?_
   refine w_cond_t rfl ?_
   refine w_seq ?_
   refine w_region ?_
   refine o_y (y_assign rfl) rfl rfl ?_
   refine wl_nil ?_
   refine e_seq ?_
   refine w_ret ?_
   refine e_seq_ret ?_
   refine e_ret (ts := [6]) rfl rfl rfl (fun w hw => ?_)
   exact ⟨(), rfl, hw.base, (hw.weak (List.nil_sublist _) (fun s hs => hs)).toNews⟩

theorem dc_hd {w : World} : Dc Tryz.prog w 42 (α := Hd) (hdC) (fun _ => []) (fun h => h.host.length ≤ 9223372036854775807 ∧ AdOk h.ad) := fun H enc base sp hd fuel cs x h => by
  obtain ⟨xs, n, rfl, _, hcl, hxl, hf⟩ := DataW.trod_struct Tryz.underlying42 h
  have hcl2 : cs.length = 4 := hcl.trans (by kernel_rfl)
  obtain ⟨x0, c0, r0, o0⟩ := dc_field hxl hf 0 (ft := 36) (off := 0) (k := 1) (by kernel_rfl) (by kernel_rfl) (dc_str Tryz.underlying36)
  obtain ⟨x1, c1, r1, o1⟩ := dc_field hxl hf 1 (ft := 28) (off := 1) (k := 3) (by kernel_rfl) (by kernel_rfl) dc_ad
  have hcs := cut0 (cutc c0 (cutc c1 (cutn hcl2) rfl) rfl)
  exact ⟨⟨x0, x1⟩, hcs, nofun, o0, o1⟩

theorem dc_hds {w : World} : Dc Tryz.prog w 25 (fun p : List Hd × Option Addr × Nat => [.slice p.2.1 p.1.length p.2.2]) (fun p => Ch.rd p.2.1 4 hdC p.1 :: p.1.flatMap (fun _ => [])) (fun p => p.1.length ≤ 9223372036854775807 ∧ ∀ h ∈ p.1, h.host.length ≤ 9223372036854775807 ∧ AdOk h.ad) := dc_slice Tryz.underlying25 (by kernel_rfl) (by decide) enc_hd dc_hd

end Go.Proofs.YtfmelbpgkbiooaaGreat
