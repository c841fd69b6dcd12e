import Derived.Test.YtfmelbpgkbiooaaGreatReS
/- routes, said plainly -/
namespace Go.Proofs.YtfmelbpgkbiooaaGreat
open Go.RowKit Go.Shelf
set_option linter.unusedVariables false
set_option linter.unusedSimpArgs false

theorem ent_22 : Enters Tryz.prog 22 := enters_of Tryz.func22 (by kernel_rfl) rfl
theorem ent_67 : Enters Tryz.prog 67 := enters_of Tryz.func67 (by kernel_rfl) rfl
theorem ent_68 : Enters Tryz.prog 68 := enters_of Tryz.func68 (by kernel_rfl) rfl

theorem rtE_yes {es : List En} {hs : List Hd} {a : Ad} {r : Option Le} (h : r.map (·.e) = ofE es hs a) (h1 : r.isSome = true) : rtE es hs a = ⟨a, (r.getD le0).e.host, (r.getD le0).e.cluster⟩ ∧ (ofE es hs a).isSome = true := by
  cases r with
  | none => cases h1
  | some y => rw [rtE, ← h]; exact ⟨rfl, rfl⟩
theorem rtE_no {es : List En} {hs : List Hd} {a : Ad} {r : Option Le} (h : r.map (·.e) = ofE es hs a) (h1 : r.isSome = false) : rtE es hs a = rt0 ∧ (ofE es hs a).isSome = false := by
  cases r with
  | some y => cases h1
  | none => rw [rtE, ← h]; exact ⟨rfl, rfl⟩
theorem rtE_ad {es : List En} {hs : List Hd} {a : Ad} (h : (ofE es hs a).isSome = true) : (rtE es hs a).ad = a := by rw [rtE, if_pos h]
theorem cmpA_total {a b : Ad} (h : a ≠ b) (h1 : ¬ cmpA a b < 0) : cmpA b a < 0 := Classical.byContradiction fun h2 => h (cmpA_eq h2 h1)
theorem cmpA_trans {a b c : Ad} (h1 : cmpA a b < 0) (h2 : cmpA b c < 0) : cmpA a c < 0 := by rw [cmpA_neg] at *; omega
theorem cmpA_irr {a b : Ad} (h1 : cmpA a b < 0) : a ≠ b := fun e => by subst e; rw [cmpA_neg] at h1; omega
theorem cmp4_gt {a b : Ad} (h : 0 < cmp4 a b) : cmpA b a < 0 := by
  refine cmpA_total (fun e => ?_) (fun h1 => ?_)
  · subst e; rw [cmp4, if_pos rfl] at h; omega
  · have := cmp4_neg h1; omega
theorem cmp4_pos {a b : Ad} (h : cmpA b a < 0) : 0 < cmp4 a b := by
  rw [cmpA_neg] at h
  unfold cmp4
  have hk : kdA b < kdA a → a.six ≠ b.six ∧ ¬ b.six = true := by unfold kdA; cases a.six <;> cases b.six <;> simp
  split
  · rename_i e; subst e; omega
  · split
    · rename_i e
      rcases h with h | h
      · rw [if_neg (hk h).2]; decide
      · exact absurd (kd_inj h.1).symm e
    · rename_i e
      rcases h with h | h
      · exact absurd (hk h).1 e
      · rw [if_neg (by omega)]; decide
theorem cmp4_lt {a b : Ad} (h : ¬ 0 < cmp4 a b) (hn : a ≠ b) : cmpA a b < 0 := Classical.byContradiction fun h1 => h (cmp4_pos (cmpA_total hn h1))
/-- Routes that rise, of the addresses that K tells. -/
structure AmS (es : List En) (hs : List Hd) (K : Ad → Prop) (zs : List Rt) : Prop where
  up : zs.Pairwise fun a b => cmpA a.ad b.ad < 0
  fd : ∀ r ∈ zs, r = rtE es hs r.ad ∧ (ofE es hs r.ad).isSome = true
  keys : ∀ a, (∃ r ∈ zs, r.ad = a) ↔ K a
theorem ams_nil (es : List En) (hs : List Hd) : AmS es hs (fun _ => False) [] := ⟨.nil, nofun, fun a => ⟨fun q => (by obtain ⟨_, h, _⟩ := q; cases h), False.elim⟩⟩
theorem ams_dup {es : List En} {hs : List Hd} {K : Ad → Prop} {zs : List Rt} {X : Ad} (h : AmS es hs K zs) (hx : ∃ r ∈ zs, r.ad = X) : AmS es hs (fun a => K a ∨ a = X) zs :=
  ⟨h.up, h.fd, fun a => ⟨fun q => .inl ((h.keys a).1 q), fun q => q.elim (h.keys a).2 (fun e => e ▸ hx)⟩⟩
theorem ams_ins {es : List En} {hs : List Hd} {K : Ad → Prop} {zs : List Rt} {X : Ad} {j : Nat} (h : AmS es hs K zs) (hj : j ≤ zs.length) (h1 : ∀ k, j ≤ k → k < zs.length → 0 < cmp4 (zs.getD k rt0).ad X) (h2 : 0 < j → ¬ 0 < cmp4 (zs.getD (j - 1) rt0).ad X ∧ (zs.getD (j - 1) rt0).ad ≠ X) (hX : (ofE es hs X).isSome = true) :
    AmS es hs (fun a => K a ∨ a = X) (zs.take j ++ [rtE es hs X] ++ zs.drop j) := by
  have hXa := rtE_ad hX
  have hup := h.up
  rw [List.pairwise_iff_getElem] at hup
  have hg : ∀ k, k < zs.length → ∀ hk, zs.getD k rt0 = zs[k]'hk := fun k _ hk => by rw [List.getD_eq_getElem?_getD, List.getElem?_eq_getElem hk]; rfl
  have hlo : ∀ r ∈ zs.take j, cmpA r.ad X < 0 := fun r hr => by
    obtain ⟨k, hk, rfl⟩ := List.mem_iff_getElem.1 hr
    have hk2 : k < j := by simp at hk; omega
    obtain ⟨q1, q2⟩ := h2 (by omega)
    rw [List.getElem_take]
    have q3 := cmp4_lt q1 q2
    rw [hg (j - 1) (by omega) (by omega)] at q3
    by_cases e : k = j - 1
    · subst e; exact q3
    · exact cmpA_trans (hup k (j - 1) (by omega) (by omega) (by omega)) q3
  have hhi : ∀ r ∈ zs.drop j, cmpA X r.ad < 0 := fun r hr => by
    obtain ⟨k, hk, rfl⟩ := List.mem_iff_getElem.1 hr
    rw [List.length_drop] at hk
    rw [List.getElem_drop]
    have := cmp4_gt (h1 (j + k) (by omega) (by omega))
    rw [hg (j + k) (by omega) (by omega)] at this; exact this
  have hm : ∀ r, r ∈ zs.take j ++ [rtE es hs X] ++ zs.drop j ↔ r ∈ zs ∨ r = rtE es hs X := fun r => by
    rw [List.mem_append, List.mem_append, List.mem_singleton]
    constructor
    · rintro ((q | q) | q)
      · exact .inl (List.mem_of_mem_take q)
      · exact .inr q
      · exact .inl (List.mem_of_mem_drop q)
    · rintro (q | q)
      · rw [← List.take_append_drop j zs, List.mem_append] at q
        rcases q with q | q
        · exact .inl (.inl q)
        · exact .inr q
      · exact .inl (.inr q)
  refine ⟨?_, fun r hr => ?_, fun a => ?_⟩
  · have hu2 := h.up
    rw [← List.take_append_drop j zs, List.pairwise_append] at hu2
    rw [List.pairwise_append, List.pairwise_append]
    refine ⟨⟨hu2.1, List.pairwise_singleton _ _, fun r hr q hq => ?_⟩, hu2.2.1, fun r hr q hq => ?_⟩
    · rw [List.mem_singleton.1 hq, hXa]; exact hlo r hr
    · rcases List.mem_append.1 hr with hr | hr
      · exact cmpA_trans (hlo r hr) (hhi q hq)
      · rw [List.mem_singleton.1 hr, hXa]; exact hhi q hq
  · rcases (hm r).1 hr with hr | rfl
    · exact h.fd r hr
    · rw [hXa]; exact ⟨rfl, hX⟩
  · constructor
    · rintro ⟨r, hr, rfl⟩
      rcases (hm r).1 hr with hr | rfl
      · exact .inl ((h.keys _).1 ⟨r, hr, rfl⟩)
      · exact .inr hXa
    · rintro (q | rfl)
      · obtain ⟨r, hr, e⟩ := (h.keys a).2 q
        exact ⟨r, (hm r).2 (.inl hr), e⟩
      · exact ⟨_, (hm _).2 (.inr rfl), hXa⟩
theorem ams_mono {es : List En} {hs : List Hd} {K K' : Ad → Prop} {zs : List Rt} (h : AmS es hs K zs) (e : ∀ a, K a ↔ K' a) : AmS es hs K' zs := ⟨h.up, h.fd, fun a => (h.keys a).trans (e a)⟩
theorem up_eq : ∀ {xs ys : List Rt}, (xs.Pairwise fun a b => cmpA a.ad b.ad < 0) → (ys.Pairwise fun a b => cmpA a.ad b.ad < 0) → (∀ r, r ∈ xs ↔ r ∈ ys) → xs = ys
  | [], [], _, _, _ => rfl
  | [], y :: ys, _, _, h => absurd ((h y).2 (.head _)) nofun
  | x :: xs, [], _, _, h => absurd ((h x).1 (.head _)) nofun
  | x :: xs, y :: ys, h1, h2, h => by
    rw [List.pairwise_cons] at h1 h2
    have e : x = y := by
      rcases List.mem_cons.1 ((h x).1 (.head _)) with e | hx
      · exact e
      · rcases List.mem_cons.1 ((h y).2 (.head _)) with e | hy
        · exact e.symm
        · have q1 : cmpA x.ad y.ad < 0 := h1.1 y hy
          have q2 : cmpA y.ad x.ad < 0 := h2.1 x hx
          exact absurd (rfl : x.ad = x.ad) (cmpA_irr (a := x.ad) (b := x.ad) (cmpA_trans q1 q2))
    subst e
    have ht : ∀ r, r ∈ xs ↔ r ∈ ys := fun r => by
      constructor
      · intro hr
        rcases List.mem_cons.1 ((h r).1 (.tail _ hr)) with e | hy
        · have q1 : cmpA x.ad r.ad < 0 := h1.1 r hr
          exact absurd (show x.ad = r.ad by rw [e]) (cmpA_irr q1)
        · exact hy
      · intro hr
        rcases List.mem_cons.1 ((h r).2 (.tail _ hr)) with e | hy
        · have q1 : cmpA x.ad r.ad < 0 := h2.1 r hr
          exact absurd (show x.ad = r.ad by rw [e]) (cmpA_irr q1)
        · exact hy
    rw [up_eq h1.2 h2.2 ht]
/-- What the i first entries tell, and the k first of al. -/
def KA (l : List Le) (hs : List Hd) (i : Nat) (al : List Ad) (k : Nat) (a : Ad) : Prop := (∃ q, q < i ∧ a ∈ adsE (l.map (·.e)) hs (l.getD q le0).e.host) ∨ a ∈ al.take k
theorem ka_row {l : List Le} {hs : List Hd} {i k : Nat} {al : List Ad} (h0 : adsE (l.map (·.e)) hs (l.getD i le0).e.host = al) (hk : al.length ≤ k) (a : Ad) : KA l hs i al k a ↔ KA l hs (i + 1) [] 0 a := by
  unfold KA
  rw [List.take_of_length_le hk, ← h0]
  constructor
  · rintro (⟨q, hq, h⟩ | h)
    · exact .inl ⟨q, by omega, h⟩
    · exact .inl ⟨i, by omega, h⟩
  · rintro (⟨q, hq, h⟩ | h)
    · by_cases e : q = i
      · subst e; exact .inr h
      · exact .inl ⟨q, by omega, h⟩
    · simp at h
theorem ka_in {l : List Le} {hs : List Hd} {i : Nat} (al : List Ad) (a : Ad) : KA l hs i [] 0 a ↔ KA l hs i al 0 a := by
  unfold KA; simp
theorem ka_one {l : List Le} {hs : List Hd} {i k : Nat} {al : List Ad} (hk : k < al.length) (a : Ad) : (KA l hs i al k a ∨ a = al.getD k ad0) ↔ KA l hs i al (k + 1) a := by
  unfold KA
  rw [take_getD _ ad0 k hk, List.mem_append, List.mem_singleton, or_assoc]
theorem ka_zero (l : List Le) (hs : List Hd) (a : Ad) : False ↔ KA l hs 0 [] 0 a := by
  unfold KA; simp

theorem c_ref19_Find (v : Int) (l : List Le) (A : Option Addr) (c : Nat) (b : Nat) (Q : Option Addr) (hs : List Hd) (qc : Nat) (a : Ad) (hok : TbOk l) (hlen : l.length ≤ 1000000000) (h0 : tabCk v l = 0) (H : HeldOk (l.map (·.e)) hs) (hhl : hs.length ≤ 1000000) (hhh : ∀ h ∈ hs, h.host.length ≤ 1000 ∧ 0 ≤ h.ad.lo) : RC Tryz.prog 22 #[.pointer (some ⟨b, 0, none⟩), .agg (adC a).toArray] [Ch.row b (rfC v A l.length c Q hs.length qc) 117, Ch.rd A 7 elC l, Ch.rall (l.flatMap elR), Ch.rd Q 4 hdC hs] (α := Unit) (fun _ => .tuple #[.agg (rtC (rtE (l.map (·.e)) hs a)).toArray, .bool (ofE (l.map (·.e)) hs a).isSome]) (fun _ => []) := by
 refine rc_of_W (args := [.pointer (some ⟨b, 0, none⟩), .agg (adC a).toArray]) 23 Tryz.func22 rfl rfl rfl (fun w0 => ?_)
 refine w_seq ?_
 refine w_region ?_
 refine o_box rfl rfl rfl (fun b1 => ?_)
 refine o_alloc ty_38 rfl rfl (fun b2 => ?_)
 refine o_y (y_assign rfl) rfl rfl ?_
 refine wl_nil ?_
 refine e_seq ?_
 refine w_seq ?_
 refine w_region ?_
 refine o_y (y_move rfl) rfl rfl ?_
 refine o_y (y_loadrs 1 ty_28 rfl rfl rfl rfl) rfl rfl ?_
 refine o_callr0 rfl ent_67 rfl (c_ref18_Of v l A c b Q hs qc a hok hlen h0 H hhl hhh) (fun w hw => (rd_cons (rd_S 0 rfl hw) (rd_cons (rd_S 1 rfl hw) (rd_cons (rd_S 2 rfl hw) (rd_cons (rd_S 3 rfl hw) rd_nil))))) (fun ⟨rb, hrb, hrm⟩ => ?_)
 refine o_y (y_move rfl) rfl rfl ?_
 refine o_y (y_extract rfl rfl) rfl rfl ?_
 refine o_y (y_extract rfl rfl) rfl rfl ?_
 refine o_alloc ty_47 rfl rfl (fun b4 => ?_)
 refine o_store ty_47 rfl rfl rfl .z rfl rfl rfl rfl ?_
 refine o_y (y_assign rfl) rfl rfl ?_
 refine wl_nil ?_
 refine e_seq ?_
 refine w_seq ?_
 refine w_seq ?_
 refine w_region ?_
 refine o_y (y_move rfl) rfl rfl ?_
 refine wl_splitb (t := 14) rfl (fun h2_0 => ?_) (fun h2_0 => ?_)
 refine o_y (y_not rfl) rfl rfl ?_
 refine wl_nil ?_
 refine e_seq ?_
 refine w_cond_f rfl ?_
 refine w_skip ?_
 refine e_seq ?_
 refine w_seq ?_
 refine w_region ?_
 refine o_y (y_loadrs 2 ty_28 rfl rfl rfl rfl) rfl rfl ?_
 refine o_y (y_field fa_47_0 rfl) rfl rfl ?_
 refine o_y (y_loadr 0 ty_36 rfl rfl rfl) rfl rfl ?_
 refine o_y (y_field fa_47_2 rfl) rfl rfl ?_
 refine o_y (y_loadr 0 ty_9 rfl rfl rfl) rfl rfl ?_
 refine o_y (y_build rfl (bu_38_0_1_2 _ _ _ _ _)) rfl rfl ?_
 refine o_store ty_38 rfl rfl rfl (.s (.z)) rfl rfl rfl rfl ?_
 refine o_y (y_assign rfl) rfl rfl ?_
 refine wl_nil ?_
 refine e_seq ?_
 refine w_ret ?_
 refine e_rsr (rs := [.cell 4 38, .tmp 5]) rfl (rs_cells 1 ty_38 rfl rfl rfl rfl (rs_tmp rfl rs_nil)) rfl (fun w hw => ?_)
 obtain ⟨he, he2⟩ := rtE_yes hrb h2_0
 exact ⟨(), by rw [he, he2]; rfl, hw.base, (hw.weak (List.nil_sublist _) (fun s hs => hs)).toNews⟩
 refine o_y (y_not rfl) rfl rfl ?_
 refine wl_nil ?_
 refine e_seq ?_
 refine w_cond_t rfl ?_
 refine w_seq ?_
 refine w_region ?_
 refine o_y (y_build rfl (bu_38)) rfl rfl ?_
 refine o_store ty_38 rfl rfl rfl (.s (.z)) rfl rfl rfl rfl ?_
 refine o_y (y_assign rfl) rfl rfl ?_
 refine wl_nil ?_
 refine e_seq ?_
 refine w_ret ?_
 refine e_seq_ret ?_
 refine e_rsr (rs := [.cell 4 38, .tmp 5]) rfl (rs_cells 1 ty_38 rfl rfl rfl rfl (rs_tmp rfl rs_nil)) rfl (fun w hw => ?_)
 obtain ⟨he, he2⟩ := rtE_no hrb h2_0
 exact ⟨(), by rw [he, he2]; rfl, hw.base, (hw.weak (List.nil_sublist _) (fun s hs => hs)).toNews⟩

theorem c_ref19_Cluster (v : Int) (l : List Le) (A : Option Addr) (c : Nat) (b : Nat) (Q : Option Addr) (hs : List Hd) (qc : Nat) (a : Ad) (hok : TbOk l) (hlen : l.length ≤ 1000000000) (h0 : tabCk v l = 0) (H : HeldOk (l.map (·.e)) hs) (hhl : hs.length ≤ 1000000) (hhh : ∀ h ∈ hs, h.host.length ≤ 1000 ∧ 0 ≤ h.ad.lo) : RC Tryz.prog 25 #[.pointer (some ⟨b, 0, none⟩), .agg (adC a).toArray] [Ch.row b (rfC v A l.length c Q hs.length qc) 117, Ch.rd A 7 elC l, Ch.rall (l.flatMap elR), Ch.rd Q 4 hdC hs] (α := Unit) (fun _ => .string (ba (rtE (l.map (·.e)) hs a).cl)) (fun _ => []) := by
 refine rc_of_W (args := [.pointer (some ⟨b, 0, none⟩), .agg (adC a).toArray]) 15 Tryz.func25 rfl rfl rfl (fun w0 => ?_)
 refine w_seq ?_
 refine w_region ?_
 refine o_box rfl rfl rfl (fun b1 => ?_)
 refine o_y (y_assign rfl) rfl rfl ?_
 refine wl_nil ?_
 refine e_seq ?_
 refine w_seq ?_
 refine w_region ?_
 refine o_y (y_move rfl) rfl rfl ?_
 refine o_y (y_loadrs 0 ty_28 rfl rfl rfl rfl) rfl rfl ?_
 refine o_callq rfl ent_22 rfl (c_ref19_Find v l A c b Q hs qc a hok hlen h0 H hhl hhh) (fun w hw => (rd_cons (rd_S 0 rfl hw) (rd_cons (rd_S 1 rfl hw) (rd_cons (rd_S 2 rfl hw) (rd_cons (rd_S 3 rfl hw) rd_nil))))) ?_
 refine o_y (y_move rfl) rfl rfl ?_
 refine o_y (y_extract rfl rfl) rfl rfl ?_
 refine o_y (y_extract rfl rfl) rfl rfl ?_
 refine o_alloc ty_38 rfl rfl (fun b2 => ?_)
 refine o_store ty_38 rfl rfl rfl .z rfl rfl rfl rfl ?_
 refine o_y (y_assign rfl) rfl rfl ?_
 refine wl_nil ?_
 refine e_seq ?_
 refine w_seq ?_
 refine w_region ?_
 refine o_y (y_field fa_38_2 rfl) rfl rfl ?_
 refine o_y (y_loadr 0 ty_9 rfl rfl rfl) rfl rfl ?_
 refine o_y (y_assign rfl) rfl rfl ?_
 refine wl_nil ?_
 refine e_seq ?_
 refine w_ret ?_
 refine e_ret (ts := [4]) rfl rfl rfl (fun w hw => ?_)
 exact ⟨(), rfl, hw.base, (hw.weak (List.nil_sublist _) (fun s hs => hs)).toNews⟩

set_option maxRecDepth 100000 in
theorem c_ref19_Same (xs ys : List Rt) (A B : Option Addr) (c e : Nat) (hl : xs.length ≤ 1000000) : RC Tryz.prog 26 #[.slice A xs.length c, .slice B ys.length e] [Ch.rd A 5 rtC xs, Ch.rd B 5 rtC ys] (α := Unit) (fun _ => .bool (decide (xs = ys))) (fun _ => []) := by
 refine rc_of_W (args := [.slice A xs.length c, .slice B ys.length e]) 26 Tryz.func26 rfl rfl rfl (fun w0 => ?_)
 refine w_seq ?_
 refine w_region ?_
 refine o_y (y_assign rfl) rfl rfl ?_
 refine wl_nil ?_
 refine e_seq ?_
 refine w_seq ?_
 refine w_seq ?_
 refine w_region ?_
 refine o_y (y_move rfl) rfl rfl ?_
 refine o_y (y_lenl Tryz.underlying50 rfl) rfl rfl ?_
 refine o_y (y_move rfl) rfl rfl ?_
 refine o_y (y_lenl Tryz.underlying50 rfl) rfl rfl ?_
 refine o_y (y_neq rfl rfl) rfl rfl ?_
 refine wl_splitp (t := 10) rfl (fun h1_4 => ?_) (fun h1_4 => ?_)
 refine wl_nil ?_
 refine e_seq ?_
 refine w_cond_t rfl ?_
 refine w_seq ?_
 refine w_region ?_
 refine o_y (y_assign rfl) rfl rfl ?_
 refine wl_nil ?_
 refine e_seq ?_
 refine w_ret ?_
 refine e_seq_ret ?_
 refine e_ret (ts := [4]) rfl rfl rfl (fun w hw => ?_)
 have he : decide (xs = ys) = false := decide_eq_false (fun e => h1_4 (by rw [e]))
 exact ⟨(), by rw [he]; rfl, hw.base, (hw.weak (List.nil_sublist _) (fun s hs => hs)).toNews⟩
 have hyn : xs.length = ys.length := by omega
 refine wl_nil ?_
 refine e_seq ?_
 refine w_cond_f rfl ?_
 refine w_skip ?_
 refine e_seq ?_
 refine w_seq ?_
 refine w_seq ?_
 refine w_region ?_
 refine o_y (y_assign rfl) rfl rfl ?_
 refine wl_nil ?_
 refine e_seq ?_
 refine w_block ?_
 refine w_loop0 (σ := Nat) [4, 5, 11, 12, 13, 14, 15, 16, 17, 18, 19, 20, 21, 22, 23, 24, 25] (fun i => i ≤ xs.length ∧ xs.take i = ys.take i) (fun i => xs.length - i) (fun i => [(5, .int .i64 i)]) (0) ?_ ⟨rfl, trivial⟩ (fun i hI => ?_)
 exact ⟨Nat.zero_le _, rfl⟩
 refine w_seq ?_
 refine w_seq ?_
 refine w_region ?_
 refine o_y (y_move rfl) rfl rfl ?_
 refine o_y (y_move rfl) rfl rfl ?_
 refine o_y (y_lenl Tryz.underlying50 rfl) rfl rfl ?_
 refine o_y (y_lss rfl rfl) rfl rfl ?_
 refine wl_splitp (t := 14) rfl (fun h4_3 => ?_) (fun h4_3 => ?_)
 refine wl_nil ?_
 refine e_seq ?_
 refine w_cond_t rfl ?_
 refine w_skip ?_
 refine e_seq ?_
 refine w_seq ?_
 refine w_block ?_
 refine w_seq ?_
 refine w_draw 9 rfl mixed ?_
 refine a_take (i := 0) rfl wanted_none (y_move rfl) (fun w h => h) (fun w h => h) rfl (pk_seq (pk_blk (pk_seq (pk_loop (pk_blk (pk_seq pk_fn)))))) (by kernel_rfl) rfl ?_
 refine a_take (i := 1) rfl wanted_none (y_move rfl) (fun w h => h) (fun w h => h) rfl (pk_seq (pk_blk (pk_seq (pk_loop (pk_blk (pk_seq pk_fn)))))) (by kernel_rfl) rfl ?_
 refine a_take (i := 2) rfl wanted_none (y_ixm  Tryz.underlying50 ty_38 rfl rfl (rs_S 0 rfl) rfl (by omega)) (fun w h => h) (fun w h => h) rfl (pk_seq (pk_blk (pk_seq (pk_loop (pk_blk (pk_seq pk_fn)))))) (by kernel_rfl) rfl ?_
 refine a_take (i := 3) rfl wanted_none (y_ldsm0 enc_rt rt0 ty_38 rfl (rs_S 0 rfl) (by omega) rfl rfl rfl) (fun w h => h) (fun w h => h) rfl (pk_seq (pk_blk (pk_seq (pk_loop (pk_blk (pk_seq pk_fn)))))) (by kernel_rfl) rfl ?_
 refine a_take (i := 4) rfl wanted_none (y_move rfl) (fun w h => h) (fun w h => h) rfl (pk_seq (pk_blk (pk_seq (pk_loop (pk_blk (pk_seq pk_fn)))))) (by kernel_rfl) rfl ?_
 refine a_take (i := 5) rfl wanted_none (y_move rfl) (fun w h => h) (fun w h => h) rfl (pk_seq (pk_blk (pk_seq (pk_loop (pk_blk (pk_seq pk_fn)))))) (by kernel_rfl) rfl ?_
 refine a_take (i := 6) rfl wanted_none (y_ixm  Tryz.underlying50 ty_38 rfl rfl (rs_S 1 rfl) rfl (by omega)) (fun w h => h) (fun w h => h) rfl (pk_seq (pk_blk (pk_seq (pk_loop (pk_blk (pk_seq pk_fn)))))) (by kernel_rfl) rfl ?_
 refine a_take (i := 7) rfl wanted_none (y_ldsm0 enc_rt rt0 ty_38 rfl (rs_S 1 rfl) (by omega) rfl rfl rfl) (fun w h => h) (fun w h => h) rfl (pk_seq (pk_blk (pk_seq (pk_loop (pk_blk (pk_seq pk_fn)))))) (by kernel_rfl) rfl ?_
 refine a_take (i := 8) rfl wanted_none (y_nestd (by kernel_rfl) rfl rfl (eqd_rt _ _) rfl) (fun w h => h) (fun w h => h) rfl (pk_seq (pk_blk (pk_seq (pk_loop (pk_blk (pk_seq pk_fn)))))) (by kernel_rfl) rfl ?_
 refine wa_splitp (t := 25) rfl (fun h6_8 => ?_) (fun h6_8 => ?_)
 refine a_done (by kernel_rfl) ?_
 refine e_seq ?_
 refine w_cond_t rfl ?_
 refine w_seq ?_
 refine w_region ?_
 refine o_y (y_assign rfl) rfl rfl ?_
 refine wl_nil ?_
 refine e_seq ?_
 refine w_ret ?_
 refine e_blk_ret ?_
 refine e_seq_ret ?_
 refine e_loop_ret ?_
 refine e_blk_ret ?_
 refine e_seq_ret ?_
 refine e_ret (ts := [4]) rfl rfl rfl (fun w hw => ?_)
 have he : decide (xs = ys) = false := decide_eq_false (fun e => h6_8 (by rw [e]))
 exact ⟨(), by rw [he]; rfl, hw.base, (hw.weak (List.nil_sublist _) (fun s hs => hs)).toNews⟩
 refine a_done (by kernel_rfl) ?_
 refine e_seq ?_
 refine w_cond_f rfl ?_
 refine w_skip ?_
 refine e_blk ?_
 refine e_seq ?_
 refine w_region ?_
 refine o_y (y_move rfl) rfl rfl ?_
 refine o_y (y_addi rfl rfl (by omega) (by omega)) rfl rfl ?_
 refine o_y (y_assign rfl) rfl rfl ?_
 refine wl_nil ?_
 refine e_back (i + 1) ?_ ?_ ⟨rfl, trivial⟩ (by repeat (first | exact trivial | refine ⟨rfl, ?_⟩)) (fun w h => h)
 exact ⟨by omega, by rw [take_getD xs rt0 i (by omega), take_getD ys rt0 i (by omega), hI.2, Decidable.not_not.1 h6_8]⟩
 omega
 refine wl_nil ?_
 refine e_seq ?_
 refine w_cond_f rfl ?_
 refine w_exit ?_
 refine e_seq_exit ?_
 refine e_loop_exit ?_
 refine e_blk_hit ?_
 refine e_seq ?_
 refine w_seq ?_
 refine w_region ?_
 refine o_y (y_assign rfl) rfl rfl ?_
 refine wl_nil ?_
 refine e_seq ?_
 refine w_ret ?_
 refine e_ret (ts := [4]) rfl rfl rfl (fun w hw => ?_)
 have he : decide (xs = ys) = true := decide_eq_true (by have := hI.2; rwa [List.take_of_length_le (by omega), List.take_of_length_le (by omega)] at this)
 exact ⟨(), by rw [he]; rfl, hw.base, (hw.weak (List.nil_sublist _) (fun s hs => hs)).toNews⟩

set_option maxRecDepth 100000 in
set_option maxHeartbeats 1000000 in
theorem c_ref19_All (v : Int) (l : List Le) (A : Option Addr) (c : Nat) (b : Nat) (Q : Option Addr) (hs : List Hd) (qc : Nat) (hok : TbOk l) (hlen : l.length ≤ 1000000000) (h0 : tabCk v l = 0) (H : HeldOk (l.map (·.e)) hs) (hhl : hs.length ≤ 1000000) (hhh : ∀ h ∈ hs, h.host.length ≤ 1000 ∧ 0 ≤ h.ad.lo) (hof : ∀ n a, a ∈ adsE (l.map (·.e)) hs n → (ofE (l.map (·.e)) hs a).isSome = true) (hal : ∀ n, (adsE (l.map (·.e)) hs n).length ≤ 1000) (hll : l.length ≤ 1000) : RC Tryz.prog 24 #[.pointer (some ⟨b, 0, none⟩)] [Ch.row b (rfC v A l.length c Q hs.length qc) 117, Ch.rd A 7 elC l, Ch.rall (l.flatMap elR), Ch.rd Q 4 hdC hs] (α := {p : List Rt × Option Addr × Nat // AmS (l.map (·.e)) hs (KA l hs l.length [] 0) p.1 ∧ p.1.length ≤ 1000000}) (fun p => .slice p.1.2.1 p.1.1.length p.1.2.2) (fun p => [Ch.ls p.1.2.1 p.1.2.2 38 5 rtC p.1.1]) := by
 refine rc_of_W (args := [.pointer (some ⟨b, 0, none⟩)]) 93 Tryz.func24 rfl rfl rfl (fun w0 => ?_)
 refine w_seq ?_
 refine w_region ?_
 refine o_y (y_assign rfl) rfl rfl ?_
 refine wl_nil ?_
 refine e_seq ?_
 refine w_seq ?_
 refine w_region ?_
 refine o_y (y_assign rfl) rfl rfl ?_
 refine wl_nil ?_
 refine e_seq ?_
 refine w_seq ?_
 refine w_seq ?_
 refine w_region ?_
 refine o_y (y_assign rfl) rfl rfl ?_
 refine wl_nil ?_
 refine e_seq ?_
 refine w_block ?_
 refine w_heap (fun w h => h.nilsl 38 5) ?_
 refine w_loop1 (σ := Nat × List Rt × Option Addr × Nat) [3, 4, 5, 6, 7, 8, 9, 10, 11, 12, 13, 14, 15, 16, 17, 18, 19, 20, 21, 22, 23, 24, 25, 26, 27, 28, 29, 30, 31, 32, 33, 34, 35, 36, 37, 38, 39, 40, 41, 42, 43, 44, 45, 46, 47, 48, 49, 50, 51, 52, 53, 54, 55, 56, 57, 58, 59, 60, 61, 62, 63, 64, 65, 66, 67, 68, 69, 70, 71, 72, 73, 74, 75, 76, 77, 78, 79, 80, 81, 82, 83, 84, 85, 86, 87, 88, 89, 90, 91] (fun q => q.1 ≤ l.length ∧ q.2.1.length ≤ 1000 * q.1 ∧ AmS (l.map (·.e)) hs (KA l hs q.1 [] 0) q.2.1) (fun q => l.length - q.1) (fun q => [(4, .int .i64 q.1), (3, .slice q.2.2.1 q.2.1.length q.2.2.2)]) (fun q => Ch.ls q.2.2.1 q.2.2.2 38 5 rtC q.2.1) ((0, [], none, 0)) ?_ ⟨rfl, rfl, trivial⟩ rfl (fun q hI => ?_)
 exact ⟨Nat.zero_le _, Nat.zero_le _, ams_mono (ams_nil _ _) (ka_zero _ _)⟩
 obtain ⟨i, zs, Aq, cq⟩ := q
 dsimp only at hI ⊢
 refine w_seq ?_
 refine w_seq ?_
 refine w_region ?_
 refine o_y (y_move rfl) rfl rfl ?_
 refine o_y (y_move rfl) rfl rfl ?_
 refine o_y (y_nilCheck rfl) rfl rfl ?_
 refine o_y (y_field fa_117_0 rfl) rfl rfl ?_
 refine o_y (y_field fa_24_1 rfl) rfl rfl ?_
 refine o_y (y_loadSo 0 ty_22 rfl rfl rfl) rfl rfl ?_
 refine o_y (y_lenl Tryz.underlying22 rfl) rfl rfl ?_
 refine o_y (y_lss rfl rfl) rfl rfl ?_
 refine wl_splitp (t := 17) rfl (fun h3_7 => ?_) (fun h3_7 => ?_)
 have hi : i < l.length := by omega
 have hb9 := hok.at hi
 have hal9 := hal (l.getD i le0).e.host
 refine wl_nil ?_
 refine e_seq ?_
 refine w_cond_t rfl ?_
 refine w_skip ?_
 refine e_seq ?_
 refine w_seq ?_
 refine w_block ?_
 refine w_seq ?_
 refine w_region ?_
 refine o_y (y_move rfl) rfl rfl ?_
 refine o_y (y_move rfl) rfl rfl ?_
 refine o_y (y_nilCheck rfl) rfl rfl ?_
 refine o_y (y_field fa_117_0 rfl) rfl rfl ?_
 refine o_y (y_field fa_24_1 rfl) rfl rfl ?_
 refine o_y (y_loadSo 0 ty_22 rfl rfl rfl) rfl rfl ?_
 refine o_y (y_move rfl) rfl rfl ?_
 refine o_y (y_ixm  Tryz.underlying22 ty_47 rfl rfl (rs_S 1 rfl) rfl (by omega)) rfl rfl ?_
 refine o_y (y_ldsm0 enc_le le0 ty_47 rfl (rs_S 1 rfl) (by omega) rfl rfl rfl) rfl rfl ?_
 refine o_callr1 rfl ent_68 rfl (c_ref18_Addrs v l A c b Q hs qc (l.getD i le0) hb9.h hok hlen h0 H hhl hhh) (fun w hw => (rd_cons (rd_S 0 rfl hw) (rd_cons (rd_S 1 rfl hw) (rd_cons (rd_S 2 rfl hw) (rd_cons (rd_S 3 rfl hw) rd_nil))))) (fun ⟨Aa, ca⟩ => ?_)
 generalize hal0 : adsE (l.map (·.e)) hs (l.getD i le0).e.host = al at *
 refine o_y (y_assign rfl) rfl rfl ?_
 refine wl_nil ?_
 refine e_seq ?_
 refine w_seq ?_
 refine w_region ?_
 refine o_y (y_assign rfl) rfl rfl ?_
 refine wl_nil ?_
 refine e_seq ?_
 refine w_block ?_
 refine w_heap (fun w h => h.f1) ?_
 refine w_loop1 (σ := Nat × List Rt × Option Addr × Nat) [3, 6, 7, 8, 9, 30, 31, 32, 33, 34, 35, 36, 37, 38, 39, 40, 41, 42, 43, 44, 45, 46, 47, 48, 49, 50, 51, 52, 53, 54, 55, 56, 57, 58, 59, 60, 61, 62, 63, 64, 65, 66, 67, 68, 69, 70, 71, 72, 73, 74, 75, 76, 77, 78, 79, 80, 81, 82, 83, 84, 85, 86, 87, 88, 89, 90, 91] (fun q => q.1 ≤ al.length ∧ q.2.1.length ≤ 1000 * i + q.1 ∧ AmS (l.map (·.e)) hs (KA l hs i al q.1) q.2.1) (fun q => al.length - q.1) (fun q => [(6, .int .i64 q.1), (3, .slice q.2.2.1 q.2.1.length q.2.2.2)]) (fun q => Ch.ls q.2.2.1 q.2.2.2 38 5 rtC q.2.1) ((0, zs, Aq, cq)) ?_ ⟨rfl, rfl, trivial⟩ rfl (fun q hI => ?_)
 exact ⟨Nat.zero_le _, hI.2.1, ams_mono hI.2.2 (ka_in _)⟩
 obtain ⟨k, zs, Aq, cq⟩ := q
 dsimp only at hI ⊢
 have hI8 := hI.2.2
 have hI7 := hI.2.1
 refine w_seq ?_
 refine w_seq ?_
 refine w_region ?_
 refine o_y (y_move rfl) rfl rfl ?_
 refine o_y (y_move rfl) rfl rfl ?_
 refine o_y (y_lenl Tryz.underlying43 rfl) rfl rfl ?_
 refine o_y (y_lss rfl rfl) rfl rfl ?_
 refine wl_splitp (t := 33) rfl (fun h7_3 => ?_) (fun h7_3 => ?_)
 have hk : k < al.length := by omega
 refine wl_nil ?_
 refine e_seq ?_
 refine w_cond_t rfl ?_
 refine w_skip ?_
 refine e_seq ?_
 refine w_seq ?_
 refine w_block ?_
 refine w_seq ?_
 refine w_region ?_
 refine o_y (y_move rfl) rfl rfl ?_
 refine o_y (y_lenl Tryz.underlying50 rfl) rfl rfl ?_
 refine o_y (y_assign rfl) rfl rfl ?_
 refine wl_nil ?_
 refine e_seq ?_
 refine w_seq ?_
 refine w_block ?_
 refine w_loop0 (σ := Nat) [7, 38, 39, 40, 41, 42, 43, 44, 45, 46, 47, 48, 49, 50, 51, 52, 53, 54, 55] (fun j => j ≤ zs.length ∧ ∀ k1, j ≤ k1 → k1 < zs.length → 0 < cmp4 (zs.getD k1 rt0).ad (al.getD k ad0)) (fun j => j) (fun j => [(7, .int .i64 j)]) (zs.length) ?_ ⟨rfl, trivial⟩ (fun j hI => ?_)
 exact ⟨Nat.le_refl _, fun k1 h1 h2 => by omega⟩
 refine w_seq ?_
 refine w_seq ?_
 refine w_draw 16 rfl mixed ?_
 refine a_take (i := 0) rfl wanted_none (y_move rfl) (fun w h => h) (fun w h => h) rfl (pk_seq (pk_seq (pk_loop (pk_blk (pk_seq (pk_blk (pk_seq (pk_loop (pk_blk (pk_blk (pk_seq (pk_loop (pk_blk (pk_seq pk_fn)))))))))))))) (by kernel_rfl) rfl ?_
 refine a_take (i := 1) rfl wanted_none (y_gtr rfl rfl) (fun w h => h) (fun w h => h) rfl (pk_seq (pk_seq (pk_loop (pk_blk (pk_seq (pk_blk (pk_seq (pk_loop (pk_blk (pk_blk (pk_seq (pk_loop (pk_blk (pk_seq pk_fn)))))))))))))) (by kernel_rfl) rfl ?_
 refine wa_splitp (t := 39) rfl (fun h10_1 => ?_) (fun h10_1 => ?_)
 refine a_take (i := 2) rfl wanted_none (y_move rfl) (fun w h => h) (fun w h => h) rfl (pk_seq (pk_seq (pk_loop (pk_blk (pk_seq (pk_blk (pk_seq (pk_loop (pk_blk (pk_blk (pk_seq (pk_loop (pk_blk (pk_seq pk_fn)))))))))))))) (by kernel_rfl) rfl ?_
 refine a_take (i := 3) rfl (wanted_yes rfl rfl) (y_move rfl) (fun w h => h) (fun w h => h) rfl (pk_seq (pk_seq (pk_loop (pk_blk (pk_seq (pk_blk (pk_seq (pk_loop (pk_blk (pk_blk (pk_seq (pk_loop (pk_blk (pk_seq pk_fn)))))))))))))) (by kernel_rfl) rfl ?_
 refine a_take (i := 4) rfl (wanted_yes rfl rfl) (y_move rfl) (fun w h => h) (fun w h => h) rfl (pk_seq (pk_seq (pk_loop (pk_blk (pk_seq (pk_blk (pk_seq (pk_loop (pk_blk (pk_blk (pk_seq (pk_loop (pk_blk (pk_seq pk_fn)))))))))))))) (by kernel_rfl) rfl ?_
 refine a_take (i := 5) rfl (wanted_yes rfl rfl) (y_subi rfl rfl (by omega) (by omega)) (fun w h => h) (fun w h => h) rfl (pk_seq (pk_seq (pk_loop (pk_blk (pk_seq (pk_blk (pk_seq (pk_loop (pk_blk (pk_blk (pk_seq (pk_loop (pk_blk (pk_seq pk_fn)))))))))))))) (by kernel_rfl) rfl ?_
 refine a_take (i := 6) rfl (wanted_yes rfl rfl) (y_ixm (k := (j - 1)) Tryz.underlying50 ty_38 rfl rfl (rs_L 0 rfl) (by omega) (by omega)) (fun w h => h) (fun w h => h) rfl (pk_seq (pk_seq (pk_loop (pk_blk (pk_seq (pk_blk (pk_seq (pk_loop (pk_blk (pk_blk (pk_seq (pk_loop (pk_blk (pk_seq pk_fn)))))))))))))) (by kernel_rfl) rfl ?_
 refine a_take (i := 7) rfl (wanted_yes rfl rfl) (y_field fa_38_0 rfl) (fun w h => h) (fun w h => h) rfl (pk_seq (pk_seq (pk_loop (pk_blk (pk_seq (pk_blk (pk_seq (pk_loop (pk_blk (pk_blk (pk_seq (pk_loop (pk_blk (pk_seq pk_fn)))))))))))))) (by kernel_rfl) rfl ?_
 refine a_take (i := 8) rfl (wanted_yes rfl rfl) (y_ldsm0 enc_rt rt0 ty_28 rfl (rs_L 0 rfl) (by omega) rfl rfl rfl) (fun w h => h) (fun w h => h) rfl (pk_seq (pk_seq (pk_loop (pk_blk (pk_seq (pk_blk (pk_seq (pk_loop (pk_blk (pk_blk (pk_seq (pk_loop (pk_blk (pk_seq pk_fn)))))))))))))) (by kernel_rfl) rfl ?_
 refine a_take (i := 9) rfl (wanted_yes rfl rfl) (y_move rfl) (fun w h => h) (fun w h => h) rfl (pk_seq (pk_seq (pk_loop (pk_blk (pk_seq (pk_blk (pk_seq (pk_loop (pk_blk (pk_blk (pk_seq (pk_loop (pk_blk (pk_seq pk_fn)))))))))))))) (by kernel_rfl) rfl ?_
 refine a_take (i := 10) rfl (wanted_yes rfl rfl) (y_move rfl) (fun w h => h) (fun w h => h) rfl (pk_seq (pk_seq (pk_loop (pk_blk (pk_seq (pk_blk (pk_seq (pk_loop (pk_blk (pk_blk (pk_seq (pk_loop (pk_blk (pk_seq pk_fn)))))))))))))) (by kernel_rfl) rfl ?_
 refine a_take (i := 11) rfl (wanted_yes rfl rfl) (y_ixm  Tryz.underlying43 ty_28 rfl rfl (rs_L 1 rfl) rfl (by omega)) (fun w h => h) (fun w h => h) rfl (pk_seq (pk_seq (pk_loop (pk_blk (pk_seq (pk_blk (pk_seq (pk_loop (pk_blk (pk_blk (pk_seq (pk_loop (pk_blk (pk_seq pk_fn)))))))))))))) (by kernel_rfl) rfl ?_
 refine a_take (i := 12) rfl (wanted_yes rfl rfl) (y_ldsm0 enc_ad ad0 ty_28 rfl (rs_L 1 rfl) (by omega) rfl rfl rfl) (fun w h => h) (fun w h => h) rfl (pk_seq (pk_seq (pk_loop (pk_blk (pk_seq (pk_blk (pk_seq (pk_loop (pk_blk (pk_blk (pk_seq (pk_loop (pk_blk (pk_seq pk_fn)))))))))))))) (by kernel_rfl) rfl ?_
 refine a_one (i := 13) rfl rfl rfl (tame_call rfl ent_16) (by kernel_rfl) rfl ?_
 refine wl_gyes rfl rfl ?_
 refine o_callp rfl ent_16 (c_Cmp04 _ _) rfl ?_
 refine wl_nil ?_
 refine e_one (fun w h => h) ?_
 refine a_take (i := 14) rfl (wanted_yes rfl rfl) (y_gtr rfl rfl) (fun w h => h) (fun w h => h) rfl (pk_seq (pk_seq (pk_loop (pk_blk (pk_seq (pk_blk (pk_seq (pk_loop (pk_blk (pk_blk (pk_seq (pk_loop (pk_blk (pk_seq pk_fn)))))))))))))) (by kernel_rfl) rfl ?_
 refine wa_splitp (t := 52) rfl (fun h10_14 => ?_) (fun h10_14 => ?_)
 refine a_take (i := 15) rfl wanted_none (y_pick_t rfl rfl) (fun w h => h) (fun w h => h) rfl (pk_seq (pk_seq (pk_loop (pk_blk (pk_seq (pk_blk (pk_seq (pk_loop (pk_blk (pk_blk (pk_seq (pk_loop (pk_blk (pk_seq pk_fn)))))))))))))) (by kernel_rfl) rfl ?_
 refine a_done (by kernel_rfl) ?_
 refine e_seq ?_
 refine w_cond_t rfl ?_
 refine w_skip ?_
 refine e_seq ?_
 refine w_block ?_
 refine w_region ?_
 refine o_y (y_move rfl) rfl rfl ?_
 refine o_y (y_subi rfl rfl (by omega) (by omega)) rfl rfl ?_
 refine o_y (y_assign rfl) rfl rfl ?_
 refine wl_nil ?_
 refine e_blk ?_
 refine e_back (j - 1) ?_ ?_ ⟨lk rfl (by congr 1; omega), trivial⟩ (by repeat (first | exact trivial | refine ⟨rfl, ?_⟩)) (fun w h => h)
 refine ⟨by omega, fun k1 h1 h2 => ?_⟩
 by_cases e : k1 = j - 1
 · rw [e]; exact h10_14
 · exact hI.2 k1 (by omega) h2
 omega
 refine a_take (i := 15) rfl wanted_none (y_pick_t rfl rfl) (fun w h => h) (fun w h => h) rfl (pk_seq (pk_seq (pk_loop (pk_blk (pk_seq (pk_blk (pk_seq (pk_loop (pk_blk (pk_blk (pk_seq (pk_loop (pk_blk (pk_seq pk_fn)))))))))))))) (by kernel_rfl) rfl ?_
 refine a_done (by kernel_rfl) ?_
 refine e_seq ?_
 refine w_cond_f rfl ?_
 refine w_exit ?_
 refine e_seq_exit ?_
 refine e_loop_exit ?_
 refine e_blk_hit ?_
 refine e_seq ?_
 refine w_seq ?_
 refine w_seq ?_
 refine w_draw 15 rfl mixed ?_
 refine a_take (i := 0) rfl wanted_none (y_move rfl) (fun w h => h) (fun w h => h) rfl (pk_seq (pk_seq (pk_blk (pk_seq (pk_loop (pk_blk (pk_blk (pk_seq (pk_loop (pk_blk (pk_seq pk_fn))))))))))) (by kernel_rfl) rfl ?_
 refine a_take (i := 1) rfl wanted_none (y_gtr rfl rfl) (fun w h => h) (fun w h => h) rfl (pk_seq (pk_seq (pk_blk (pk_seq (pk_loop (pk_blk (pk_blk (pk_seq (pk_loop (pk_blk (pk_seq pk_fn))))))))))) (by kernel_rfl) rfl ?_
 refine wa_splitp (t := 57) rfl (fun h12_1 => ?_) (fun h12_1 => ?_)
 refine a_take (i := 2) rfl wanted_none (y_move rfl) (fun w h => h) (fun w h => h) rfl (pk_seq (pk_seq (pk_blk (pk_seq (pk_loop (pk_blk (pk_blk (pk_seq (pk_loop (pk_blk (pk_seq pk_fn))))))))))) (by kernel_rfl) rfl ?_
 refine a_take (i := 3) rfl (wanted_yes rfl rfl) (y_move rfl) (fun w h => h) (fun w h => h) rfl (pk_seq (pk_seq (pk_blk (pk_seq (pk_loop (pk_blk (pk_blk (pk_seq (pk_loop (pk_blk (pk_seq pk_fn))))))))))) (by kernel_rfl) rfl ?_
 refine a_take (i := 4) rfl (wanted_yes rfl rfl) (y_move rfl) (fun w h => h) (fun w h => h) rfl (pk_seq (pk_seq (pk_blk (pk_seq (pk_loop (pk_blk (pk_blk (pk_seq (pk_loop (pk_blk (pk_seq pk_fn))))))))))) (by kernel_rfl) rfl ?_
 refine a_take (i := 5) rfl (wanted_yes rfl rfl) (y_subi rfl rfl (by omega) (by omega)) (fun w h => h) (fun w h => h) rfl (pk_seq (pk_seq (pk_blk (pk_seq (pk_loop (pk_blk (pk_blk (pk_seq (pk_loop (pk_blk (pk_seq pk_fn))))))))))) (by kernel_rfl) rfl ?_
 refine a_take (i := 6) rfl (wanted_yes rfl rfl) (y_ixm (k := (j - 1)) Tryz.underlying50 ty_38 rfl rfl (rs_L 0 rfl) (by omega) (by omega)) (fun w h => h) (fun w h => h) rfl (pk_seq (pk_seq (pk_blk (pk_seq (pk_loop (pk_blk (pk_blk (pk_seq (pk_loop (pk_blk (pk_seq pk_fn))))))))))) (by kernel_rfl) rfl ?_
 refine a_take (i := 7) rfl (wanted_yes rfl rfl) (y_field fa_38_0 rfl) (fun w h => h) (fun w h => h) rfl (pk_seq (pk_seq (pk_blk (pk_seq (pk_loop (pk_blk (pk_blk (pk_seq (pk_loop (pk_blk (pk_seq pk_fn))))))))))) (by kernel_rfl) rfl ?_
 refine a_take (i := 8) rfl (wanted_yes rfl rfl) (y_ldsm0 enc_rt rt0 ty_28 rfl (rs_L 0 rfl) (by omega) rfl rfl rfl) (fun w h => h) (fun w h => h) rfl (pk_seq (pk_seq (pk_blk (pk_seq (pk_loop (pk_blk (pk_blk (pk_seq (pk_loop (pk_blk (pk_seq pk_fn))))))))))) (by kernel_rfl) rfl ?_
 refine a_take (i := 9) rfl (wanted_yes rfl rfl) (y_move rfl) (fun w h => h) (fun w h => h) rfl (pk_seq (pk_seq (pk_blk (pk_seq (pk_loop (pk_blk (pk_blk (pk_seq (pk_loop (pk_blk (pk_seq pk_fn))))))))))) (by kernel_rfl) rfl ?_
 refine a_take (i := 10) rfl (wanted_yes rfl rfl) (y_move rfl) (fun w h => h) (fun w h => h) rfl (pk_seq (pk_seq (pk_blk (pk_seq (pk_loop (pk_blk (pk_blk (pk_seq (pk_loop (pk_blk (pk_seq pk_fn))))))))))) (by kernel_rfl) rfl ?_
 refine a_take (i := 11) rfl (wanted_yes rfl rfl) (y_ixm  Tryz.underlying43 ty_28 rfl rfl (rs_L 1 rfl) rfl (by omega)) (fun w h => h) (fun w h => h) rfl (pk_seq (pk_seq (pk_blk (pk_seq (pk_loop (pk_blk (pk_blk (pk_seq (pk_loop (pk_blk (pk_seq pk_fn))))))))))) (by kernel_rfl) rfl ?_
 refine a_take (i := 12) rfl (wanted_yes rfl rfl) (y_ldsm0 enc_ad ad0 ty_28 rfl (rs_L 1 rfl) (by omega) rfl rfl rfl) (fun w h => h) (fun w h => h) rfl (pk_seq (pk_seq (pk_blk (pk_seq (pk_loop (pk_blk (pk_blk (pk_seq (pk_loop (pk_blk (pk_seq pk_fn))))))))))) (by kernel_rfl) rfl ?_
 refine a_take (i := 13) rfl (wanted_yes rfl rfl) (y_eqst (by kernel_rfl) rfl rfl (eqd_ad _ _) rfl) (fun w h => h) (fun w h => h) rfl (pk_seq (pk_seq (pk_blk (pk_seq (pk_loop (pk_blk (pk_blk (pk_seq (pk_loop (pk_blk (pk_seq pk_fn))))))))))) (by kernel_rfl) rfl ?_
 refine wa_splitp (t := 69) rfl (fun h12_13 => ?_) (fun h12_13 => ?_)
 refine a_take (i := 14) rfl wanted_none (y_pick_t rfl rfl) (fun w h => h) (fun w h => h) rfl (pk_seq (pk_seq (pk_blk (pk_seq (pk_loop (pk_blk (pk_blk (pk_seq (pk_loop (pk_blk (pk_seq pk_fn))))))))))) (by kernel_rfl) rfl ?_
 refine a_done (by kernel_rfl) ?_
 refine e_seq ?_
 refine w_cond_t rfl ?_
 refine w_exit ?_
 refine e_seq_exit ?_
 refine e_blk_hit ?_
 refine e_seq ?_
 refine w_region ?_
 refine o_y (y_move rfl) rfl rfl ?_
 refine o_y (y_addi rfl rfl (by omega) (by omega)) rfl rfl ?_
 refine o_y (y_assign rfl) rfl rfl ?_
 refine wl_nil ?_
 refine e_back ((k + 1, zs, Aq, cq)) ?_ ?_ ⟨rfl, rfl, trivial⟩ (by repeat (first | exact trivial | refine ⟨rfl, ?_⟩)) (fun w h => h)
 exact ⟨by show k + 1 ≤ _; omega, by show zs.length ≤ 1000 * i + (k + 1); omega, (ams_dup hI8 ⟨_, mem_getD (d := rt0) (show j - 1 < zs.length by omega), h12_13⟩ |> fun q => ams_mono q (ka_one hk))⟩
 show al.length - (k + 1) < al.length - k
 omega
 refine a_take (i := 14) rfl wanted_none (y_pick_t rfl rfl) (fun w h => h) (fun w h => h) rfl (pk_seq (pk_seq (pk_blk (pk_seq (pk_loop (pk_blk (pk_blk (pk_seq (pk_loop (pk_blk (pk_seq pk_fn))))))))))) (by kernel_rfl) rfl ?_
 refine a_done (by kernel_rfl) ?_
 refine e_seq ?_
 refine w_cond_f rfl ?_
 refine w_skip ?_
 refine e_seq ?_
 refine w_seq ?_
 refine w_region ?_
 refine o_y (y_move rfl) rfl rfl ?_
 refine o_y (y_move rfl) rfl rfl ?_
 refine o_y (y_move rfl) rfl rfl ?_
 refine o_y (y_ixm  Tryz.underlying43 ty_28 rfl rfl (rs_L 1 rfl) rfl (by omega)) rfl rfl ?_
 refine o_y (y_ldsm0 enc_ad ad0 ty_28 rfl (rs_L 1 rfl) (by omega) rfl rfl rfl) rfl rfl ?_
 refine o_callq rfl ent_22 rfl (c_ref19_Find v l A c b Q hs qc (al.getD k ad0) hok hlen h0 H hhl hhh) (fun w hw => (rd_cons (rd_S 0 rfl hw) (rd_cons (rd_S 1 rfl hw) (rd_cons (rd_S 2 rfl hw) (rd_cons (rd_S 3 rfl hw) rd_nil))))) ?_
 generalize hR9 : rtE (l.map (·.e)) hs (al.getD k ad0) = R9
 generalize hR8 : (ofE (l.map (·.e)) hs (al.getD k ad0)).isSome = R8
 refine o_y (y_move rfl) rfl rfl ?_
 refine o_y (y_extract rfl rfl) rfl rfl ?_
 refine o_y (y_extract rfl rfl) rfl rfl ?_
 refine o_alloc ty_38 rfl rfl (fun b2 => ?_)
 refine o_store ty_38 rfl rfl rfl .z rfl rfl rfl rfl ?_
 refine o_y (y_assign rfl) rfl rfl ?_
 refine wl_nil ?_
 refine e_seq ?_
 refine w_draw 13 rfl mixed ?_
 refine a_take (i := 1) rfl wanted_none (y_move rfl) (fun w h => h) (fun w h => h) rfl (pk_blk (pk_seq (pk_loop (pk_blk (pk_blk (pk_seq (pk_loop (pk_blk (pk_seq pk_fn))))))))) (by kernel_rfl) rfl ?_
 refine a_take (i := 2) rfl wanted_none (y_move rfl) (fun w h => h) (fun w h => h) rfl (pk_blk (pk_seq (pk_loop (pk_blk (pk_blk (pk_seq (pk_loop (pk_blk (pk_seq pk_fn))))))))) (by kernel_rfl) rfl ?_
 refine a_take (i := 3) rfl wanted_none (y_takes  Tryz.underlying50 ty_38 rfl rfl rfl (by omega) (cap_L 1 rfl)) (fun w h => h) (fun w h => h) rfl (pk_blk (pk_seq (pk_loop (pk_blk (pk_blk (pk_seq (pk_loop (pk_blk (pk_seq pk_fn))))))))) (by kernel_rfl) rfl ?_
 refine a_take (i := 5) rfl wanted_none (y_loadrs 0 ty_38 rfl rfl rfl rfl) (fun w h => h) (fun w h => h) rfl (pk_blk (pk_seq (pk_loop (pk_blk (pk_blk (pk_seq (pk_loop (pk_blk (pk_seq pk_fn))))))))) (by kernel_rfl) rfl ?_
 refine a_take (i := 8) rfl wanted_none (y_move rfl) (fun w h => h) (fun w h => h) rfl (pk_blk (pk_seq (pk_loop (pk_blk (pk_blk (pk_seq (pk_loop (pk_blk (pk_seq pk_fn))))))))) (by kernel_rfl) rfl ?_
 refine a_take (i := 9) rfl wanted_none (y_move rfl) (fun w h => h) (fun w h => h) rfl (pk_blk (pk_seq (pk_loop (pk_blk (pk_blk (pk_seq (pk_loop (pk_blk (pk_seq pk_fn))))))))) (by kernel_rfl) rfl ?_
 refine a_take (i := 10) rfl wanted_none (y_drop  Tryz.underlying50 ty_38 rfl rfl rfl (by omega)) (fun w h => h) (fun w h => h) rfl (pk_blk (pk_seq (pk_loop (pk_blk (pk_blk (pk_seq (pk_loop (pk_blk (pk_seq pk_fn))))))))) (by kernel_rfl) rfl ?_
 refine a_many (js := [0, 6]) (by kernel_rfl) rfl ?_
 refine wr_cons (i := 0) rfl rfl rfl (fun _ _ _ => tame_op (by kernel_rfl)) rfl ?_ ?_
 refine o_bsl (vs := []) (([] : List Rt) : List (Rt)) enc_rt Tryz.underlying50 ty_38 rfl rfl rfl rfl rfl rfl (fun As3 => ?_)
 refine wl_nil ?_
 refine e_one (fun w h => h.weak (.cons _ (List.Sublist.refl _)) (fun s hs => hs)) ?_
 refine a_many (js := [4, 6]) (by kernel_rfl) rfl ?_
 refine wr_cons (i := 4) rfl rfl rfl (fun _ _ _ => tame_op (by kernel_rfl)) rfl ?_ ?_
 refine o_appm (enc := rtC) (sz := 5) (zs.take j) Tryz.underlying50 ty_38 rfl rfl rfl (fun A c => .z) (fun w hw => RsP.src Tryz.underlying50 (rd_takeL enc_rt 2 rfl (by omega) hw).1) (by simp only [List.length_append, List.length_take, List.length_drop, List.length_cons, List.length_nil]; omega) (by simp only [List.length_append, List.length_take, List.length_drop, List.length_cons, List.length_nil]; omega) rfl (fun A3 c3 => ?_)
 refine wl_nil ?_
 refine e_one (fun w h => h.weak (.cons _ (List.Sublist.refl _)) (fun s hs => hs)) ?_
 refine a_one (i := 6) rfl rfl rfl (fun _ _ _ => tame_op (by kernel_rfl)) (by kernel_rfl) rfl ?_
 refine o_bsl (vs := [_]) ([R9] : List (Rt)) enc_rt Tryz.underlying50 ty_38 rfl rfl rfl rfl rfl rfl (fun As5 => ?_)
 refine wl_nil ?_
 refine e_one (fun w h => h.weak (.cons _ (.cons _ (List.Sublist.refl _))) (fun s hs => hs)) ?_
 refine a_one (i := 7) rfl rfl rfl (fun _ _ _ => tame_op (by kernel_rfl)) (by kernel_rfl) rfl ?_
 refine o_appm (enc := rtC) (sz := 5) [R9] Tryz.underlying50 ty_38 rfl rfl rfl (fun A c => (.s (.z))) (src_L 0 Tryz.underlying50 rfl) (by simp only [List.length_append, List.length_take, List.length_drop, List.length_cons, List.length_nil]; omega) (by simp only [List.length_append, List.length_take, List.length_drop, List.length_cons, List.length_nil]; omega) rfl (fun A5 c5 => ?_)
 refine wl_nil ?_
 refine e_one (fun w h => h.weak (.cons _ (.cons _ (List.Sublist.refl _))) (fun s hs => hs)) ?_
 refine a_one (i := 11) rfl rfl rfl (fun _ _ _ => tame_op (by kernel_rfl)) (by kernel_rfl) rfl ?_
 refine o_appm (enc := rtC) (sz := 5) (zs.drop j) Tryz.underlying50 ty_38 rfl rfl rfl (fun A c => (.s (.z))) (fun w hw => RsP.src Tryz.underlying50 (rd_dropL enc_rt 3 rfl (by omega) hw).1) (by simp only [List.length_append, List.length_take, List.length_drop, List.length_cons, List.length_nil]; omega) (by simp only [List.length_append, List.length_take, List.length_drop, List.length_cons, List.length_nil]; omega) rfl (fun A6 c6 => ?_)
 refine wl_nil ?_
 refine e_one (fun w h => h.weak (.cons _ (.cons _ (List.Sublist.refl _))) (fun s hs => hs)) ?_
 refine a_take (i := 12) rfl wanted_none (y_assign rfl) (fun w h => h.weak (.cons _ (.cons _ (List.Sublist.refl _))) (fun s hs => hs)) (fun w h => h) rfl (pk_blk (pk_seq (pk_loop (pk_blk (pk_blk (pk_seq (pk_loop (pk_blk (pk_seq pk_fn))))))))) (by kernel_rfl) rfl ?_
 refine a_done (by kernel_rfl) ?_
 refine e_blk ?_
 refine e_seq ?_
 refine w_region ?_
 refine o_y (y_move rfl) rfl rfl ?_
 refine o_y (y_addi rfl rfl (by omega) (by omega)) rfl rfl ?_
 refine o_y (y_assign rfl) rfl rfl ?_
 refine wl_nil ?_
 refine e_back ((k + 1, zs.take j ++ [R9] ++ zs.drop j, A6, c6)) ?_ ?_ ⟨rfl, rfl, trivial⟩ (by repeat (first | exact trivial | refine ⟨rfl, ?_⟩)) (fun w h => h.weak (.cons _ (.cons_cons _ (.cons _ (.cons _ (.cons_cons _ (List.Sublist.refl _)))))) (fun s hs => hs))
 exact ⟨by show k + 1 ≤ _; omega, by show (zs.take j ++ [R9] ++ zs.drop j).length ≤ 1000 * i + (k + 1); simp only [List.length_append, List.length_take, List.length_drop, List.length_cons, List.length_nil]; omega, by subst hR9; exact ams_mono (ams_ins hI8 hI.1 hI.2 (fun h9 => by first | exact absurd h9 (by omega) | exact ⟨by first | exact h10_14 | omega, h12_13⟩) (hof (l.getD i le0).e.host _ (by rw [hal0]; exact mem_getD (d := ad0) hk))) (ka_one hk)⟩
 show al.length - (k + 1) < al.length - k
 omega
 refine wr_cons (i := 6) rfl rfl rfl (fun _ _ _ => tame_op (by kernel_rfl)) rfl ?_ ?_
 refine o_bsl (vs := [_]) ([R9] : List (Rt)) enc_rt Tryz.underlying50 ty_38 rfl rfl rfl rfl rfl rfl (fun As8 => ?_)
 refine wl_nil ?_
 refine e_one (fun w h => h.weak (.cons _ (.cons _ (List.Sublist.refl _))) (fun s hs => hs)) ?_
 refine a_one (i := 4) rfl rfl rfl (fun _ _ _ => tame_op (by kernel_rfl)) (by kernel_rfl) rfl ?_
 refine o_appm (enc := rtC) (sz := 5) (zs.take j) Tryz.underlying50 ty_38 rfl rfl rfl (fun A c => (.s (.z))) (fun w hw => RsP.src Tryz.underlying50 (rd_takeL enc_rt 3 rfl (by omega) hw).1) (by simp only [List.length_append, List.length_take, List.length_drop, List.length_cons, List.length_nil]; omega) (by simp only [List.length_append, List.length_take, List.length_drop, List.length_cons, List.length_nil]; omega) rfl (fun A8 c8 => ?_)
 refine wl_nil ?_
 refine e_one (fun w h => h.weak (.cons _ (.cons _ (List.Sublist.refl _))) (fun s hs => hs)) ?_
 refine a_one (i := 7) rfl rfl rfl (fun _ _ _ => tame_op (by kernel_rfl)) (by kernel_rfl) rfl ?_
 refine o_appm (enc := rtC) (sz := 5) [R9] Tryz.underlying50 ty_38 rfl rfl rfl (fun A c => (.s (.z))) (src_L 0 Tryz.underlying50 rfl) (by simp only [List.length_append, List.length_take, List.length_drop, List.length_cons, List.length_nil]; omega) (by simp only [List.length_append, List.length_take, List.length_drop, List.length_cons, List.length_nil]; omega) rfl (fun A9 c9 => ?_)
 refine wl_nil ?_
 refine e_one (fun w h => h.weak (.cons _ (.cons _ (List.Sublist.refl _))) (fun s hs => hs)) ?_
 refine a_one (i := 11) rfl rfl rfl (fun _ _ _ => tame_op (by kernel_rfl)) (by kernel_rfl) rfl ?_
 refine o_appm (enc := rtC) (sz := 5) (zs.drop j) Tryz.underlying50 ty_38 rfl rfl rfl (fun A c => (.s (.z))) (fun w hw => RsP.src Tryz.underlying50 (rd_dropL enc_rt 3 rfl (by omega) hw).1) (by simp only [List.length_append, List.length_take, List.length_drop, List.length_cons, List.length_nil]; omega) (by simp only [List.length_append, List.length_take, List.length_drop, List.length_cons, List.length_nil]; omega) rfl (fun A10 c10 => ?_)
 refine wl_nil ?_
 refine e_one (fun w h => h.weak (.cons _ (.cons _ (List.Sublist.refl _))) (fun s hs => hs)) ?_
 refine a_take (i := 12) rfl wanted_none (y_assign rfl) (fun w h => h.weak (.cons _ (.cons _ (List.Sublist.refl _))) (fun s hs => hs)) (fun w h => h) rfl (pk_blk (pk_seq (pk_loop (pk_blk (pk_blk (pk_seq (pk_loop (pk_blk (pk_seq pk_fn))))))))) (by kernel_rfl) rfl ?_
 refine a_done (by kernel_rfl) ?_
 refine e_blk ?_
 refine e_seq ?_
 refine w_region ?_
 refine o_y (y_move rfl) rfl rfl ?_
 refine o_y (y_addi rfl rfl (by omega) (by omega)) rfl rfl ?_
 refine o_y (y_assign rfl) rfl rfl ?_
 refine wl_nil ?_
 refine e_back ((k + 1, zs.take j ++ [R9] ++ zs.drop j, A10, c10)) ?_ ?_ ⟨rfl, rfl, trivial⟩ (by repeat (first | exact trivial | refine ⟨rfl, ?_⟩)) (fun w h => h.weak (.cons _ (.cons_cons _ (.cons _ (.cons _ (.cons_cons _ (List.Sublist.refl _)))))) (fun s hs => hs))
 exact ⟨by show k + 1 ≤ _; omega, by show (zs.take j ++ [R9] ++ zs.drop j).length ≤ 1000 * i + (k + 1); simp only [List.length_append, List.length_take, List.length_drop, List.length_cons, List.length_nil]; omega, by subst hR9; exact ams_mono (ams_ins hI8 hI.1 hI.2 (fun h9 => by first | exact absurd h9 (by omega) | exact ⟨by first | exact h10_14 | omega, h12_13⟩) (hof (l.getD i le0).e.host _ (by rw [hal0]; exact mem_getD (d := ad0) hk))) (ka_one hk)⟩
 show al.length - (k + 1) < al.length - k
 omega
 exact wr_nil
 refine wr_cons (i := 6) rfl rfl rfl (fun _ _ _ => tame_op (by kernel_rfl)) rfl ?_ ?_
 refine o_bsl (vs := [_]) ([R9] : List (Rt)) enc_rt Tryz.underlying50 ty_38 rfl rfl rfl rfl rfl rfl (fun As12 => ?_)
 refine wl_nil ?_
 refine e_one (fun w h => h.weak (.cons _ (List.Sublist.refl _)) (fun s hs => hs)) ?_
 refine a_one (i := 0) rfl rfl rfl (fun _ _ _ => tame_op (by kernel_rfl)) (by kernel_rfl) rfl ?_
 refine o_bsl (vs := []) (([] : List Rt) : List (Rt)) enc_rt Tryz.underlying50 ty_38 rfl rfl rfl rfl rfl rfl (fun As13 => ?_)
 refine wl_nil ?_
 refine e_one (fun w h => h.weak (.cons _ (.cons _ (List.Sublist.refl _))) (fun s hs => hs)) ?_
 refine a_one (i := 4) rfl rfl rfl (fun _ _ _ => tame_op (by kernel_rfl)) (by kernel_rfl) rfl ?_
 refine o_appm (enc := rtC) (sz := 5) (zs.take j) Tryz.underlying50 ty_38 rfl rfl rfl (fun A c => .z) (fun w hw => RsP.src Tryz.underlying50 (rd_takeL enc_rt 3 rfl (by omega) hw).1) (by simp only [List.length_append, List.length_take, List.length_drop, List.length_cons, List.length_nil]; omega) (by simp only [List.length_append, List.length_take, List.length_drop, List.length_cons, List.length_nil]; omega) rfl (fun A13 c13 => ?_)
 refine wl_nil ?_
 refine e_one (fun w h => h.weak (.cons _ (.cons _ (List.Sublist.refl _))) (fun s hs => hs)) ?_
 refine a_one (i := 7) rfl rfl rfl (fun _ _ _ => tame_op (by kernel_rfl)) (by kernel_rfl) rfl ?_
 refine o_appm (enc := rtC) (sz := 5) [R9] Tryz.underlying50 ty_38 rfl rfl rfl (fun A c => .z) (src_L 1 Tryz.underlying50 rfl) (by simp only [List.length_append, List.length_take, List.length_drop, List.length_cons, List.length_nil]; omega) (by simp only [List.length_append, List.length_take, List.length_drop, List.length_cons, List.length_nil]; omega) rfl (fun A14 c14 => ?_)
 refine wl_nil ?_
 refine e_one (fun w h => h.weak (.cons _ (.cons _ (List.Sublist.refl _))) (fun s hs => hs)) ?_
 refine a_one (i := 11) rfl rfl rfl (fun _ _ _ => tame_op (by kernel_rfl)) (by kernel_rfl) rfl ?_
 refine o_appm (enc := rtC) (sz := 5) (zs.drop j) Tryz.underlying50 ty_38 rfl rfl rfl (fun A c => .z) (fun w hw => RsP.src Tryz.underlying50 (rd_dropL enc_rt 3 rfl (by omega) hw).1) (by simp only [List.length_append, List.length_take, List.length_drop, List.length_cons, List.length_nil]; omega) (by simp only [List.length_append, List.length_take, List.length_drop, List.length_cons, List.length_nil]; omega) rfl (fun A15 c15 => ?_)
 refine wl_nil ?_
 refine e_one (fun w h => h.weak (.cons _ (.cons _ (List.Sublist.refl _))) (fun s hs => hs)) ?_
 refine a_take (i := 12) rfl wanted_none (y_assign rfl) (fun w h => h.weak (.cons _ (.cons _ (List.Sublist.refl _))) (fun s hs => hs)) (fun w h => h) rfl (pk_blk (pk_seq (pk_loop (pk_blk (pk_blk (pk_seq (pk_loop (pk_blk (pk_seq pk_fn))))))))) (by kernel_rfl) rfl ?_
 refine a_done (by kernel_rfl) ?_
 refine e_blk ?_
 refine e_seq ?_
 refine w_region ?_
 refine o_y (y_move rfl) rfl rfl ?_
 refine o_y (y_addi rfl rfl (by omega) (by omega)) rfl rfl ?_
 refine o_y (y_assign rfl) rfl rfl ?_
 refine wl_nil ?_
 refine e_back ((k + 1, zs.take j ++ [R9] ++ zs.drop j, A15, c15)) ?_ ?_ ⟨rfl, rfl, trivial⟩ (by repeat (first | exact trivial | refine ⟨rfl, ?_⟩)) (fun w h => h.weak (.cons_cons _ (.cons _ (.cons _ (.cons _ (.cons_cons _ (List.Sublist.refl _)))))) (fun s hs => hs))
 exact ⟨by show k + 1 ≤ _; omega, by show (zs.take j ++ [R9] ++ zs.drop j).length ≤ 1000 * i + (k + 1); simp only [List.length_append, List.length_take, List.length_drop, List.length_cons, List.length_nil]; omega, by subst hR9; exact ams_mono (ams_ins hI8 hI.1 hI.2 (fun h9 => by first | exact absurd h9 (by omega) | exact ⟨by first | exact h10_14 | omega, h12_13⟩) (hof (l.getD i le0).e.host _ (by rw [hal0]; exact mem_getD (d := ad0) hk))) (ka_one hk)⟩
 show al.length - (k + 1) < al.length - k
 omega
 exact wr_nil
 refine a_take (i := 2) rfl wanted_none (y_move rfl) (fun w h => h) (fun w h => h) rfl (pk_seq (pk_seq (pk_blk (pk_seq (pk_loop (pk_blk (pk_blk (pk_seq (pk_loop (pk_blk (pk_seq pk_fn))))))))))) (by kernel_rfl) rfl ?_
 refine a_skip (i := 3) rfl (wanted_no rfl rfl rfl) (fun w h => h) rfl (pk_seq (pk_seq (pk_blk (pk_seq (pk_loop (pk_blk (pk_blk (pk_seq (pk_loop (pk_blk (pk_seq pk_fn))))))))))) (by kernel_rfl) rfl ?_
 refine a_skip (i := 4) rfl (wanted_no rfl rfl rfl) (fun w h => h) rfl (pk_seq (pk_seq (pk_blk (pk_seq (pk_loop (pk_blk (pk_blk (pk_seq (pk_loop (pk_blk (pk_seq pk_fn))))))))))) (by kernel_rfl) rfl ?_
 refine a_skip (i := 5) rfl (wanted_no rfl rfl rfl) (fun w h => h) rfl (pk_seq (pk_seq (pk_blk (pk_seq (pk_loop (pk_blk (pk_blk (pk_seq (pk_loop (pk_blk (pk_seq pk_fn))))))))))) (by kernel_rfl) rfl ?_
 refine a_skip (i := 6) rfl (wanted_no rfl rfl rfl) (fun w h => h) rfl (pk_seq (pk_seq (pk_blk (pk_seq (pk_loop (pk_blk (pk_blk (pk_seq (pk_loop (pk_blk (pk_seq pk_fn))))))))))) (by kernel_rfl) rfl ?_
 refine a_skip (i := 7) rfl (wanted_no rfl rfl rfl) (fun w h => h) rfl (pk_seq (pk_seq (pk_blk (pk_seq (pk_loop (pk_blk (pk_blk (pk_seq (pk_loop (pk_blk (pk_seq pk_fn))))))))))) (by kernel_rfl) rfl ?_
 refine a_skip (i := 8) rfl (wanted_no rfl rfl rfl) (fun w h => h) rfl (pk_seq (pk_seq (pk_blk (pk_seq (pk_loop (pk_blk (pk_blk (pk_seq (pk_loop (pk_blk (pk_seq pk_fn))))))))))) (by kernel_rfl) rfl ?_
 refine a_skip (i := 9) rfl (wanted_no rfl rfl rfl) (fun w h => h) rfl (pk_seq (pk_seq (pk_blk (pk_seq (pk_loop (pk_blk (pk_blk (pk_seq (pk_loop (pk_blk (pk_seq pk_fn))))))))))) (by kernel_rfl) rfl ?_
 refine a_skip (i := 10) rfl (wanted_no rfl rfl rfl) (fun w h => h) rfl (pk_seq (pk_seq (pk_blk (pk_seq (pk_loop (pk_blk (pk_blk (pk_seq (pk_loop (pk_blk (pk_seq pk_fn))))))))))) (by kernel_rfl) rfl ?_
 refine a_skip (i := 11) rfl (wanted_no rfl rfl rfl) (fun w h => h) rfl (pk_seq (pk_seq (pk_blk (pk_seq (pk_loop (pk_blk (pk_blk (pk_seq (pk_loop (pk_blk (pk_seq pk_fn))))))))))) (by kernel_rfl) rfl ?_
 refine a_skip (i := 12) rfl (wanted_no rfl rfl rfl) (fun w h => h) rfl (pk_seq (pk_seq (pk_blk (pk_seq (pk_loop (pk_blk (pk_blk (pk_seq (pk_loop (pk_blk (pk_seq pk_fn))))))))))) (by kernel_rfl) rfl ?_
 refine a_skip (i := 13) rfl (wanted_no rfl rfl rfl) (fun w h => h) rfl (pk_seq (pk_seq (pk_blk (pk_seq (pk_loop (pk_blk (pk_blk (pk_seq (pk_loop (pk_blk (pk_seq pk_fn))))))))))) (by kernel_rfl) rfl ?_
 refine a_take (i := 14) rfl wanted_none (y_pick_f rfl rfl) (fun w h => h) (fun w h => h) rfl (pk_seq (pk_seq (pk_blk (pk_seq (pk_loop (pk_blk (pk_blk (pk_seq (pk_loop (pk_blk (pk_seq pk_fn))))))))))) (by kernel_rfl) rfl ?_
 refine a_done (by kernel_rfl) ?_
 refine e_seq ?_
 refine w_cond_f rfl ?_
 refine w_skip ?_
 refine e_seq ?_
 refine w_seq ?_
 refine w_region ?_
 refine o_y (y_move rfl) rfl rfl ?_
 refine o_y (y_move rfl) rfl rfl ?_
 refine o_y (y_move rfl) rfl rfl ?_
 refine o_y (y_ixm  Tryz.underlying43 ty_28 rfl rfl (rs_L 1 rfl) rfl (by omega)) rfl rfl ?_
 refine o_y (y_ldsm0 enc_ad ad0 ty_28 rfl (rs_L 1 rfl) (by omega) rfl rfl rfl) rfl rfl ?_
 refine o_callq rfl ent_22 rfl (c_ref19_Find v l A c b Q hs qc (al.getD k ad0) hok hlen h0 H hhl hhh) (fun w hw => (rd_cons (rd_S 0 rfl hw) (rd_cons (rd_S 1 rfl hw) (rd_cons (rd_S 2 rfl hw) (rd_cons (rd_S 3 rfl hw) rd_nil))))) ?_
 generalize hR9 : rtE (l.map (·.e)) hs (al.getD k ad0) = R9
 generalize hR8 : (ofE (l.map (·.e)) hs (al.getD k ad0)).isSome = R8
 refine o_y (y_move rfl) rfl rfl ?_
 refine o_y (y_extract rfl rfl) rfl rfl ?_
 refine o_y (y_extract rfl rfl) rfl rfl ?_
 refine o_alloc ty_38 rfl rfl (fun b17 => ?_)
 refine o_store ty_38 rfl rfl rfl .z rfl rfl rfl rfl ?_
 refine o_y (y_assign rfl) rfl rfl ?_
 refine wl_nil ?_
 refine e_seq ?_
 refine w_draw 13 rfl mixed ?_
 refine a_take (i := 1) rfl wanted_none (y_move rfl) (fun w h => h) (fun w h => h) rfl (pk_blk (pk_seq (pk_loop (pk_blk (pk_blk (pk_seq (pk_loop (pk_blk (pk_seq pk_fn))))))))) (by kernel_rfl) rfl ?_
 refine a_take (i := 2) rfl wanted_none (y_move rfl) (fun w h => h) (fun w h => h) rfl (pk_blk (pk_seq (pk_loop (pk_blk (pk_blk (pk_seq (pk_loop (pk_blk (pk_seq pk_fn))))))))) (by kernel_rfl) rfl ?_
 refine a_take (i := 3) rfl wanted_none (y_takes  Tryz.underlying50 ty_38 rfl rfl rfl (by omega) (cap_L 1 rfl)) (fun w h => h) (fun w h => h) rfl (pk_blk (pk_seq (pk_loop (pk_blk (pk_blk (pk_seq (pk_loop (pk_blk (pk_seq pk_fn))))))))) (by kernel_rfl) rfl ?_
 refine a_take (i := 5) rfl wanted_none (y_loadrs 0 ty_38 rfl rfl rfl rfl) (fun w h => h) (fun w h => h) rfl (pk_blk (pk_seq (pk_loop (pk_blk (pk_blk (pk_seq (pk_loop (pk_blk (pk_seq pk_fn))))))))) (by kernel_rfl) rfl ?_
 refine a_take (i := 8) rfl wanted_none (y_move rfl) (fun w h => h) (fun w h => h) rfl (pk_blk (pk_seq (pk_loop (pk_blk (pk_blk (pk_seq (pk_loop (pk_blk (pk_seq pk_fn))))))))) (by kernel_rfl) rfl ?_
 refine a_take (i := 9) rfl wanted_none (y_move rfl) (fun w h => h) (fun w h => h) rfl (pk_blk (pk_seq (pk_loop (pk_blk (pk_blk (pk_seq (pk_loop (pk_blk (pk_seq pk_fn))))))))) (by kernel_rfl) rfl ?_
 refine a_take (i := 10) rfl wanted_none (y_drop  Tryz.underlying50 ty_38 rfl rfl rfl (by omega)) (fun w h => h) (fun w h => h) rfl (pk_blk (pk_seq (pk_loop (pk_blk (pk_blk (pk_seq (pk_loop (pk_blk (pk_seq pk_fn))))))))) (by kernel_rfl) rfl ?_
 refine a_many (js := [0, 6]) (by kernel_rfl) rfl ?_
 refine wr_cons (i := 0) rfl rfl rfl (fun _ _ _ => tame_op (by kernel_rfl)) rfl ?_ ?_
 refine o_bsl (vs := []) (([] : List Rt) : List (Rt)) enc_rt Tryz.underlying50 ty_38 rfl rfl rfl rfl rfl rfl (fun As18 => ?_)
 refine wl_nil ?_
 refine e_one (fun w h => h.weak (.cons _ (List.Sublist.refl _)) (fun s hs => hs)) ?_
 refine a_many (js := [4, 6]) (by kernel_rfl) rfl ?_
 refine wr_cons (i := 4) rfl rfl rfl (fun _ _ _ => tame_op (by kernel_rfl)) rfl ?_ ?_
 refine o_appm (enc := rtC) (sz := 5) (zs.take j) Tryz.underlying50 ty_38 rfl rfl rfl (fun A c => .z) (fun w hw => RsP.src Tryz.underlying50 (rd_takeL enc_rt 2 rfl (by omega) hw).1) (by simp only [List.length_append, List.length_take, List.length_drop, List.length_cons, List.length_nil]; omega) (by simp only [List.length_append, List.length_take, List.length_drop, List.length_cons, List.length_nil]; omega) rfl (fun A18 c18 => ?_)
 refine wl_nil ?_
 refine e_one (fun w h => h.weak (.cons _ (List.Sublist.refl _)) (fun s hs => hs)) ?_
 refine a_one (i := 6) rfl rfl rfl (fun _ _ _ => tame_op (by kernel_rfl)) (by kernel_rfl) rfl ?_
 refine o_bsl (vs := [_]) ([R9] : List (Rt)) enc_rt Tryz.underlying50 ty_38 rfl rfl rfl rfl rfl rfl (fun As20 => ?_)
 refine wl_nil ?_
 refine e_one (fun w h => h.weak (.cons _ (.cons _ (List.Sublist.refl _))) (fun s hs => hs)) ?_
 refine a_one (i := 7) rfl rfl rfl (fun _ _ _ => tame_op (by kernel_rfl)) (by kernel_rfl) rfl ?_
 refine o_appm (enc := rtC) (sz := 5) [R9] Tryz.underlying50 ty_38 rfl rfl rfl (fun A c => (.s (.z))) (src_L 0 Tryz.underlying50 rfl) (by simp only [List.length_append, List.length_take, List.length_drop, List.length_cons, List.length_nil]; omega) (by simp only [List.length_append, List.length_take, List.length_drop, List.length_cons, List.length_nil]; omega) rfl (fun A20 c20 => ?_)
 refine wl_nil ?_
 refine e_one (fun w h => h.weak (.cons _ (.cons _ (List.Sublist.refl _))) (fun s hs => hs)) ?_
 refine a_one (i := 11) rfl rfl rfl (fun _ _ _ => tame_op (by kernel_rfl)) (by kernel_rfl) rfl ?_
 refine o_appm (enc := rtC) (sz := 5) (zs.drop j) Tryz.underlying50 ty_38 rfl rfl rfl (fun A c => (.s (.z))) (fun w hw => RsP.src Tryz.underlying50 (rd_dropL enc_rt 3 rfl (by omega) hw).1) (by simp only [List.length_append, List.length_take, List.length_drop, List.length_cons, List.length_nil]; omega) (by simp only [List.length_append, List.length_take, List.length_drop, List.length_cons, List.length_nil]; omega) rfl (fun A21 c21 => ?_)
 refine wl_nil ?_
 refine e_one (fun w h => h.weak (.cons _ (.cons _ (List.Sublist.refl _))) (fun s hs => hs)) ?_
 refine a_take (i := 12) rfl wanted_none (y_assign rfl) (fun w h => h.weak (.cons _ (.cons _ (List.Sublist.refl _))) (fun s hs => hs)) (fun w h => h) rfl (pk_blk (pk_seq (pk_loop (pk_blk (pk_blk (pk_seq (pk_loop (pk_blk (pk_seq pk_fn))))))))) (by kernel_rfl) rfl ?_
 refine a_done (by kernel_rfl) ?_
 refine e_blk ?_
 refine e_seq ?_
 refine w_region ?_
 refine o_y (y_move rfl) rfl rfl ?_
 refine o_y (y_addi rfl rfl (by omega) (by omega)) rfl rfl ?_
 refine o_y (y_assign rfl) rfl rfl ?_
 refine wl_nil ?_
 refine e_back ((k + 1, zs.take j ++ [R9] ++ zs.drop j, A21, c21)) ?_ ?_ ⟨rfl, rfl, trivial⟩ (by repeat (first | exact trivial | refine ⟨rfl, ?_⟩)) (fun w h => h.weak (.cons _ (.cons_cons _ (.cons _ (.cons _ (.cons_cons _ (List.Sublist.refl _)))))) (fun s hs => hs))
 exact ⟨by show k + 1 ≤ _; omega, by show (zs.take j ++ [R9] ++ zs.drop j).length ≤ 1000 * i + (k + 1); simp only [List.length_append, List.length_take, List.length_drop, List.length_cons, List.length_nil]; omega, by subst hR9; exact ams_mono (ams_ins hI8 hI.1 hI.2 (fun h9 => by first | exact absurd h9 (by omega) | exact ⟨by first | exact h10_14 | omega, h12_13⟩) (hof (l.getD i le0).e.host _ (by rw [hal0]; exact mem_getD (d := ad0) hk))) (ka_one hk)⟩
 show al.length - (k + 1) < al.length - k
 omega
 refine wr_cons (i := 6) rfl rfl rfl (fun _ _ _ => tame_op (by kernel_rfl)) rfl ?_ ?_
 refine o_bsl (vs := [_]) ([R9] : List (Rt)) enc_rt Tryz.underlying50 ty_38 rfl rfl rfl rfl rfl rfl (fun As23 => ?_)
 refine wl_nil ?_
 refine e_one (fun w h => h.weak (.cons _ (.cons _ (List.Sublist.refl _))) (fun s hs => hs)) ?_
 refine a_one (i := 4) rfl rfl rfl (fun _ _ _ => tame_op (by kernel_rfl)) (by kernel_rfl) rfl ?_
 refine o_appm (enc := rtC) (sz := 5) (zs.take j) Tryz.underlying50 ty_38 rfl rfl rfl (fun A c => (.s (.z))) (fun w hw => RsP.src Tryz.underlying50 (rd_takeL enc_rt 3 rfl (by omega) hw).1) (by simp only [List.length_append, List.length_take, List.length_drop, List.length_cons, List.length_nil]; omega) (by simp only [List.length_append, List.length_take, List.length_drop, List.length_cons, List.length_nil]; omega) rfl (fun A23 c23 => ?_)
 refine wl_nil ?_
 refine e_one (fun w h => h.weak (.cons _ (.cons _ (List.Sublist.refl _))) (fun s hs => hs)) ?_
 refine a_one (i := 7) rfl rfl rfl (fun _ _ _ => tame_op (by kernel_rfl)) (by kernel_rfl) rfl ?_
 refine o_appm (enc := rtC) (sz := 5) [R9] Tryz.underlying50 ty_38 rfl rfl rfl (fun A c => (.s (.z))) (src_L 0 Tryz.underlying50 rfl) (by simp only [List.length_append, List.length_take, List.length_drop, List.length_cons, List.length_nil]; omega) (by simp only [List.length_append, List.length_take, List.length_drop, List.length_cons, List.length_nil]; omega) rfl (fun A24 c24 => ?_)
 refine wl_nil ?_
 refine e_one (fun w h => h.weak (.cons _ (.cons _ (List.Sublist.refl _))) (fun s hs => hs)) ?_
 refine a_one (i := 11) rfl rfl rfl (fun _ _ _ => tame_op (by kernel_rfl)) (by kernel_rfl) rfl ?_
 refine o_appm (enc := rtC) (sz := 5) (zs.drop j) Tryz.underlying50 ty_38 rfl rfl rfl (fun A c => (.s (.z))) (fun w hw => RsP.src Tryz.underlying50 (rd_dropL enc_rt 3 rfl (by omega) hw).1) (by simp only [List.length_append, List.length_take, List.length_drop, List.length_cons, List.length_nil]; omega) (by simp only [List.length_append, List.length_take, List.length_drop, List.length_cons, List.length_nil]; omega) rfl (fun A25 c25 => ?_)
 refine wl_nil ?_
 refine e_one (fun w h => h.weak (.cons _ (.cons _ (List.Sublist.refl _))) (fun s hs => hs)) ?_
 refine a_take (i := 12) rfl wanted_none (y_assign rfl) (fun w h => h.weak (.cons _ (.cons _ (List.Sublist.refl _))) (fun s hs => hs)) (fun w h => h) rfl (pk_blk (pk_seq (pk_loop (pk_blk (pk_blk (pk_seq (pk_loop (pk_blk (pk_seq pk_fn))))))))) (by kernel_rfl) rfl ?_
 refine a_done (by kernel_rfl) ?_
 refine e_blk ?_
 refine e_seq ?_
 refine w_region ?_
 refine o_y (y_move rfl) rfl rfl ?_
 refine o_y (y_addi rfl rfl (by omega) (by omega)) rfl rfl ?_
 refine o_y (y_assign rfl) rfl rfl ?_
 refine wl_nil ?_
 refine e_back ((k + 1, zs.take j ++ [R9] ++ zs.drop j, A25, c25)) ?_ ?_ ⟨rfl, rfl, trivial⟩ (by repeat (first | exact trivial | refine ⟨rfl, ?_⟩)) (fun w h => h.weak (.cons _ (.cons_cons _ (.cons _ (.cons _ (.cons_cons _ (List.Sublist.refl _)))))) (fun s hs => hs))
 exact ⟨by show k + 1 ≤ _; omega, by show (zs.take j ++ [R9] ++ zs.drop j).length ≤ 1000 * i + (k + 1); simp only [List.length_append, List.length_take, List.length_drop, List.length_cons, List.length_nil]; omega, by subst hR9; exact ams_mono (ams_ins hI8 hI.1 hI.2 (fun h9 => by first | exact absurd h9 (by omega) | exact ⟨by first | exact h10_14 | omega, h12_13⟩) (hof (l.getD i le0).e.host _ (by rw [hal0]; exact mem_getD (d := ad0) hk))) (ka_one hk)⟩
 show al.length - (k + 1) < al.length - k
 omega
 exact wr_nil
 refine wr_cons (i := 6) rfl rfl rfl (fun _ _ _ => tame_op (by kernel_rfl)) rfl ?_ ?_
 refine o_bsl (vs := [_]) ([R9] : List (Rt)) enc_rt Tryz.underlying50 ty_38 rfl rfl rfl rfl rfl rfl (fun As27 => ?_)
 refine wl_nil ?_
 refine e_one (fun w h => h.weak (.cons _ (List.Sublist.refl _)) (fun s hs => hs)) ?_
 refine a_one (i := 0) rfl rfl rfl (fun _ _ _ => tame_op (by kernel_rfl)) (by kernel_rfl) rfl ?_
 refine o_bsl (vs := []) (([] : List Rt) : List (Rt)) enc_rt Tryz.underlying50 ty_38 rfl rfl rfl rfl rfl rfl (fun As28 => ?_)
 refine wl_nil ?_
 refine e_one (fun w h => h.weak (.cons _ (.cons _ (List.Sublist.refl _))) (fun s hs => hs)) ?_
 refine a_one (i := 4) rfl rfl rfl (fun _ _ _ => tame_op (by kernel_rfl)) (by kernel_rfl) rfl ?_
 refine o_appm (enc := rtC) (sz := 5) (zs.take j) Tryz.underlying50 ty_38 rfl rfl rfl (fun A c => .z) (fun w hw => RsP.src Tryz.underlying50 (rd_takeL enc_rt 3 rfl (by omega) hw).1) (by simp only [List.length_append, List.length_take, List.length_drop, List.length_cons, List.length_nil]; omega) (by simp only [List.length_append, List.length_take, List.length_drop, List.length_cons, List.length_nil]; omega) rfl (fun A28 c28 => ?_)
 refine wl_nil ?_
 refine e_one (fun w h => h.weak (.cons _ (.cons _ (List.Sublist.refl _))) (fun s hs => hs)) ?_
 refine a_one (i := 7) rfl rfl rfl (fun _ _ _ => tame_op (by kernel_rfl)) (by kernel_rfl) rfl ?_
 refine o_appm (enc := rtC) (sz := 5) [R9] Tryz.underlying50 ty_38 rfl rfl rfl (fun A c => .z) (src_L 1 Tryz.underlying50 rfl) (by simp only [List.length_append, List.length_take, List.length_drop, List.length_cons, List.length_nil]; omega) (by simp only [List.length_append, List.length_take, List.length_drop, List.length_cons, List.length_nil]; omega) rfl (fun A29 c29 => ?_)
 refine wl_nil ?_
 refine e_one (fun w h => h.weak (.cons _ (.cons _ (List.Sublist.refl _))) (fun s hs => hs)) ?_
 refine a_one (i := 11) rfl rfl rfl (fun _ _ _ => tame_op (by kernel_rfl)) (by kernel_rfl) rfl ?_
 refine o_appm (enc := rtC) (sz := 5) (zs.drop j) Tryz.underlying50 ty_38 rfl rfl rfl (fun A c => .z) (fun w hw => RsP.src Tryz.underlying50 (rd_dropL enc_rt 3 rfl (by omega) hw).1) (by simp only [List.length_append, List.length_take, List.length_drop, List.length_cons, List.length_nil]; omega) (by simp only [List.length_append, List.length_take, List.length_drop, List.length_cons, List.length_nil]; omega) rfl (fun A30 c30 => ?_)
 refine wl_nil ?_
 refine e_one (fun w h => h.weak (.cons _ (.cons _ (List.Sublist.refl _))) (fun s hs => hs)) ?_
 refine a_take (i := 12) rfl wanted_none (y_assign rfl) (fun w h => h.weak (.cons _ (.cons _ (List.Sublist.refl _))) (fun s hs => hs)) (fun w h => h) rfl (pk_blk (pk_seq (pk_loop (pk_blk (pk_blk (pk_seq (pk_loop (pk_blk (pk_seq pk_fn))))))))) (by kernel_rfl) rfl ?_
 refine a_done (by kernel_rfl) ?_
 refine e_blk ?_
 refine e_seq ?_
 refine w_region ?_
 refine o_y (y_move rfl) rfl rfl ?_
 refine o_y (y_addi rfl rfl (by omega) (by omega)) rfl rfl ?_
 refine o_y (y_assign rfl) rfl rfl ?_
 refine wl_nil ?_
 refine e_back ((k + 1, zs.take j ++ [R9] ++ zs.drop j, A30, c30)) ?_ ?_ ⟨rfl, rfl, trivial⟩ (by repeat (first | exact trivial | refine ⟨rfl, ?_⟩)) (fun w h => h.weak (.cons_cons _ (.cons _ (.cons _ (.cons _ (.cons_cons _ (List.Sublist.refl _)))))) (fun s hs => hs))
 exact ⟨by show k + 1 ≤ _; omega, by show (zs.take j ++ [R9] ++ zs.drop j).length ≤ 1000 * i + (k + 1); simp only [List.length_append, List.length_take, List.length_drop, List.length_cons, List.length_nil]; omega, by subst hR9; exact ams_mono (ams_ins hI8 hI.1 hI.2 (fun h9 => by first | exact absurd h9 (by omega) | exact ⟨by first | exact h10_14 | omega, h12_13⟩) (hof (l.getD i le0).e.host _ (by rw [hal0]; exact mem_getD (d := ad0) hk))) (ka_one hk)⟩
 show al.length - (k + 1) < al.length - k
 omega
 exact wr_nil
 refine a_take (i := 2) rfl wanted_none (y_move rfl) (fun w h => h) (fun w h => h) rfl (pk_seq (pk_seq (pk_loop (pk_blk (pk_seq (pk_blk (pk_seq (pk_loop (pk_blk (pk_blk (pk_seq (pk_loop (pk_blk (pk_seq pk_fn)))))))))))))) (by kernel_rfl) rfl ?_
 refine a_skip (i := 3) rfl (wanted_no rfl rfl rfl) (fun w h => h) rfl (pk_seq (pk_seq (pk_loop (pk_blk (pk_seq (pk_blk (pk_seq (pk_loop (pk_blk (pk_blk (pk_seq (pk_loop (pk_blk (pk_seq pk_fn)))))))))))))) (by kernel_rfl) rfl ?_
 refine a_skip (i := 4) rfl (wanted_no rfl rfl rfl) (fun w h => h) rfl (pk_seq (pk_seq (pk_loop (pk_blk (pk_seq (pk_blk (pk_seq (pk_loop (pk_blk (pk_blk (pk_seq (pk_loop (pk_blk (pk_seq pk_fn)))))))))))))) (by kernel_rfl) rfl ?_
 refine a_skip (i := 5) rfl (wanted_no rfl rfl rfl) (fun w h => h) rfl (pk_seq (pk_seq (pk_loop (pk_blk (pk_seq (pk_blk (pk_seq (pk_loop (pk_blk (pk_blk (pk_seq (pk_loop (pk_blk (pk_seq pk_fn)))))))))))))) (by kernel_rfl) rfl ?_
 refine a_skip (i := 6) rfl (wanted_no rfl rfl rfl) (fun w h => h) rfl (pk_seq (pk_seq (pk_loop (pk_blk (pk_seq (pk_blk (pk_seq (pk_loop (pk_blk (pk_blk (pk_seq (pk_loop (pk_blk (pk_seq pk_fn)))))))))))))) (by kernel_rfl) rfl ?_
 refine a_skip (i := 7) rfl (wanted_no rfl rfl rfl) (fun w h => h) rfl (pk_seq (pk_seq (pk_loop (pk_blk (pk_seq (pk_blk (pk_seq (pk_loop (pk_blk (pk_blk (pk_seq (pk_loop (pk_blk (pk_seq pk_fn)))))))))))))) (by kernel_rfl) rfl ?_
 refine a_skip (i := 8) rfl (wanted_no rfl rfl rfl) (fun w h => h) rfl (pk_seq (pk_seq (pk_loop (pk_blk (pk_seq (pk_blk (pk_seq (pk_loop (pk_blk (pk_blk (pk_seq (pk_loop (pk_blk (pk_seq pk_fn)))))))))))))) (by kernel_rfl) rfl ?_
 refine a_skip (i := 9) rfl (wanted_no rfl rfl rfl) (fun w h => h) rfl (pk_seq (pk_seq (pk_loop (pk_blk (pk_seq (pk_blk (pk_seq (pk_loop (pk_blk (pk_blk (pk_seq (pk_loop (pk_blk (pk_seq pk_fn)))))))))))))) (by kernel_rfl) rfl ?_
 refine a_skip (i := 10) rfl (wanted_no rfl rfl rfl) (fun w h => h) rfl (pk_seq (pk_seq (pk_loop (pk_blk (pk_seq (pk_blk (pk_seq (pk_loop (pk_blk (pk_blk (pk_seq (pk_loop (pk_blk (pk_seq pk_fn)))))))))))))) (by kernel_rfl) rfl ?_
 refine a_skip (i := 11) rfl (wanted_no rfl rfl rfl) (fun w h => h) rfl (pk_seq (pk_seq (pk_loop (pk_blk (pk_seq (pk_blk (pk_seq (pk_loop (pk_blk (pk_blk (pk_seq (pk_loop (pk_blk (pk_seq pk_fn)))))))))))))) (by kernel_rfl) rfl ?_
 refine a_skip (i := 12) rfl (wanted_no rfl rfl rfl) (fun w h => h) rfl (pk_seq (pk_seq (pk_loop (pk_blk (pk_seq (pk_blk (pk_seq (pk_loop (pk_blk (pk_blk (pk_seq (pk_loop (pk_blk (pk_seq pk_fn)))))))))))))) (by kernel_rfl) rfl ?_
 refine a_skip (i := 13) rfl (wanted_no rfl rfl rfl) (fun w h => h) rfl (pk_seq (pk_seq (pk_loop (pk_blk (pk_seq (pk_blk (pk_seq (pk_loop (pk_blk (pk_blk (pk_seq (pk_loop (pk_blk (pk_seq pk_fn)))))))))))))) (by kernel_rfl) rfl ?_
 refine a_skip (i := 14) rfl (wanted_no rfl rfl rfl) (fun w h => h) rfl (pk_seq (pk_seq (pk_loop (pk_blk (pk_seq (pk_blk (pk_seq (pk_loop (pk_blk (pk_blk (pk_seq (pk_loop (pk_blk (pk_seq pk_fn)))))))))))))) (by kernel_rfl) rfl ?_
 refine a_take (i := 15) rfl wanted_none (y_pick_f rfl rfl) (fun w h => h) (fun w h => h) rfl (pk_seq (pk_seq (pk_loop (pk_blk (pk_seq (pk_blk (pk_seq (pk_loop (pk_blk (pk_blk (pk_seq (pk_loop (pk_blk (pk_seq pk_fn)))))))))))))) (by kernel_rfl) rfl ?_
 refine a_done (by kernel_rfl) ?_
 refine e_seq ?_
 refine w_cond_f rfl ?_
 refine w_exit ?_
 refine e_seq_exit ?_
 refine e_loop_exit ?_
 refine e_blk_hit ?_
 refine e_seq ?_
 refine w_seq ?_
 refine w_seq ?_
 refine w_draw 15 rfl mixed ?_
 refine a_take (i := 0) rfl wanted_none (y_move rfl) (fun w h => h) (fun w h => h) rfl (pk_seq (pk_seq (pk_blk (pk_seq (pk_loop (pk_blk (pk_blk (pk_seq (pk_loop (pk_blk (pk_seq pk_fn))))))))))) (by kernel_rfl) rfl ?_
 refine a_take (i := 1) rfl wanted_none (y_gtr rfl rfl) (fun w h => h) (fun w h => h) rfl (pk_seq (pk_seq (pk_blk (pk_seq (pk_loop (pk_blk (pk_blk (pk_seq (pk_loop (pk_blk (pk_seq pk_fn))))))))))) (by kernel_rfl) rfl ?_
 refine wa_splitp (t := 57) rfl (fun h12_1 => ?_) (fun h12_1 => ?_)
 refine a_take (i := 2) rfl wanted_none (y_move rfl) (fun w h => h) (fun w h => h) rfl (pk_seq (pk_seq (pk_blk (pk_seq (pk_loop (pk_blk (pk_blk (pk_seq (pk_loop (pk_blk (pk_seq pk_fn))))))))))) (by kernel_rfl) rfl ?_
 refine a_take (i := 3) rfl (wanted_yes rfl rfl) (y_move rfl) (fun w h => h) (fun w h => h) rfl (pk_seq (pk_seq (pk_blk (pk_seq (pk_loop (pk_blk (pk_blk (pk_seq (pk_loop (pk_blk (pk_seq pk_fn))))))))))) (by kernel_rfl) rfl ?_
 refine a_take (i := 4) rfl (wanted_yes rfl rfl) (y_move rfl) (fun w h => h) (fun w h => h) rfl (pk_seq (pk_seq (pk_blk (pk_seq (pk_loop (pk_blk (pk_blk (pk_seq (pk_loop (pk_blk (pk_seq pk_fn))))))))))) (by kernel_rfl) rfl ?_
 refine a_take (i := 5) rfl (wanted_yes rfl rfl) (y_subi rfl rfl (by omega) (by omega)) (fun w h => h) (fun w h => h) rfl (pk_seq (pk_seq (pk_blk (pk_seq (pk_loop (pk_blk (pk_blk (pk_seq (pk_loop (pk_blk (pk_seq pk_fn))))))))))) (by kernel_rfl) rfl ?_
 refine a_take (i := 6) rfl (wanted_yes rfl rfl) (y_ixm (k := (j - 1)) Tryz.underlying50 ty_38 rfl rfl (rs_L 0 rfl) (by omega) (by omega)) (fun w h => h) (fun w h => h) rfl (pk_seq (pk_seq (pk_blk (pk_seq (pk_loop (pk_blk (pk_blk (pk_seq (pk_loop (pk_blk (pk_seq pk_fn))))))))))) (by kernel_rfl) rfl ?_
 refine a_take (i := 7) rfl (wanted_yes rfl rfl) (y_field fa_38_0 rfl) (fun w h => h) (fun w h => h) rfl (pk_seq (pk_seq (pk_blk (pk_seq (pk_loop (pk_blk (pk_blk (pk_seq (pk_loop (pk_blk (pk_seq pk_fn))))))))))) (by kernel_rfl) rfl ?_
 refine a_take (i := 8) rfl (wanted_yes rfl rfl) (y_ldsm0 enc_rt rt0 ty_28 rfl (rs_L 0 rfl) (by omega) rfl rfl rfl) (fun w h => h) (fun w h => h) rfl (pk_seq (pk_seq (pk_blk (pk_seq (pk_loop (pk_blk (pk_blk (pk_seq (pk_loop (pk_blk (pk_seq pk_fn))))))))))) (by kernel_rfl) rfl ?_
 refine a_take (i := 9) rfl (wanted_yes rfl rfl) (y_move rfl) (fun w h => h) (fun w h => h) rfl (pk_seq (pk_seq (pk_blk (pk_seq (pk_loop (pk_blk (pk_blk (pk_seq (pk_loop (pk_blk (pk_seq pk_fn))))))))))) (by kernel_rfl) rfl ?_
 refine a_take (i := 10) rfl (wanted_yes rfl rfl) (y_move rfl) (fun w h => h) (fun w h => h) rfl (pk_seq (pk_seq (pk_blk (pk_seq (pk_loop (pk_blk (pk_blk (pk_seq (pk_loop (pk_blk (pk_seq pk_fn))))))))))) (by kernel_rfl) rfl ?_
 refine a_take (i := 11) rfl (wanted_yes rfl rfl) (y_ixm  Tryz.underlying43 ty_28 rfl rfl (rs_L 1 rfl) rfl (by omega)) (fun w h => h) (fun w h => h) rfl (pk_seq (pk_seq (pk_blk (pk_seq (pk_loop (pk_blk (pk_blk (pk_seq (pk_loop (pk_blk (pk_seq pk_fn))))))))))) (by kernel_rfl) rfl ?_
 refine a_take (i := 12) rfl (wanted_yes rfl rfl) (y_ldsm0 enc_ad ad0 ty_28 rfl (rs_L 1 rfl) (by omega) rfl rfl rfl) (fun w h => h) (fun w h => h) rfl (pk_seq (pk_seq (pk_blk (pk_seq (pk_loop (pk_blk (pk_blk (pk_seq (pk_loop (pk_blk (pk_seq pk_fn))))))))))) (by kernel_rfl) rfl ?_
 refine a_take (i := 13) rfl (wanted_yes rfl rfl) (y_eqst (by kernel_rfl) rfl rfl (eqd_ad _ _) rfl) (fun w h => h) (fun w h => h) rfl (pk_seq (pk_seq (pk_blk (pk_seq (pk_loop (pk_blk (pk_blk (pk_seq (pk_loop (pk_blk (pk_seq pk_fn))))))))))) (by kernel_rfl) rfl ?_
 refine wa_splitp (t := 69) rfl (fun h12_13 => ?_) (fun h12_13 => ?_)
 refine a_take (i := 14) rfl wanted_none (y_pick_t rfl rfl) (fun w h => h) (fun w h => h) rfl (pk_seq (pk_seq (pk_blk (pk_seq (pk_loop (pk_blk (pk_blk (pk_seq (pk_loop (pk_blk (pk_seq pk_fn))))))))))) (by kernel_rfl) rfl ?_
 refine a_done (by kernel_rfl) ?_
 refine e_seq ?_
 refine w_cond_t rfl ?_
 refine w_exit ?_
 refine e_seq_exit ?_
 refine e_blk_hit ?_
 refine e_seq ?_
 refine w_region ?_
 refine o_y (y_move rfl) rfl rfl ?_
 refine o_y (y_addi rfl rfl (by omega) (by omega)) rfl rfl ?_
 refine o_y (y_assign rfl) rfl rfl ?_
 refine wl_nil ?_
 refine e_back ((k + 1, zs, Aq, cq)) ?_ ?_ ⟨rfl, rfl, trivial⟩ (by repeat (first | exact trivial | refine ⟨rfl, ?_⟩)) (fun w h => h)
 exact ⟨by show k + 1 ≤ _; omega, by show zs.length ≤ 1000 * i + (k + 1); omega, (ams_dup hI8 ⟨_, mem_getD (d := rt0) (show j - 1 < zs.length by omega), h12_13⟩ |> fun q => ams_mono q (ka_one hk))⟩
 show al.length - (k + 1) < al.length - k
 omega
 refine a_take (i := 14) rfl wanted_none (y_pick_t rfl rfl) (fun w h => h) (fun w h => h) rfl (pk_seq (pk_seq (pk_blk (pk_seq (pk_loop (pk_blk (pk_blk (pk_seq (pk_loop (pk_blk (pk_seq pk_fn))))))))))) (by kernel_rfl) rfl ?_
 refine a_done (by kernel_rfl) ?_
 refine e_seq ?_
 refine w_cond_f rfl ?_
 refine w_skip ?_
 refine e_seq ?_
 refine w_seq ?_
 refine w_region ?_
 refine o_y (y_move rfl) rfl rfl ?_
 refine o_y (y_move rfl) rfl rfl ?_
 refine o_y (y_move rfl) rfl rfl ?_
 refine o_y (y_ixm  Tryz.underlying43 ty_28 rfl rfl (rs_L 1 rfl) rfl (by omega)) rfl rfl ?_
 refine o_y (y_ldsm0 enc_ad ad0 ty_28 rfl (rs_L 1 rfl) (by omega) rfl rfl rfl) rfl rfl ?_
 refine o_callq rfl ent_22 rfl (c_ref19_Find v l A c b Q hs qc (al.getD k ad0) hok hlen h0 H hhl hhh) (fun w hw => (rd_cons (rd_S 0 rfl hw) (rd_cons (rd_S 1 rfl hw) (rd_cons (rd_S 2 rfl hw) (rd_cons (rd_S 3 rfl hw) rd_nil))))) ?_
 generalize hR9 : rtE (l.map (·.e)) hs (al.getD k ad0) = R9
 generalize hR8 : (ofE (l.map (·.e)) hs (al.getD k ad0)).isSome = R8
 refine o_y (y_move rfl) rfl rfl ?_
 refine o_y (y_extract rfl rfl) rfl rfl ?_
 refine o_y (y_extract rfl rfl) rfl rfl ?_
 refine o_alloc ty_38 rfl rfl (fun b32 => ?_)
 refine o_store ty_38 rfl rfl rfl .z rfl rfl rfl rfl ?_
 refine o_y (y_assign rfl) rfl rfl ?_
 refine wl_nil ?_
 refine e_seq ?_
 refine w_draw 13 rfl mixed ?_
 refine a_take (i := 1) rfl wanted_none (y_move rfl) (fun w h => h) (fun w h => h) rfl (pk_blk (pk_seq (pk_loop (pk_blk (pk_blk (pk_seq (pk_loop (pk_blk (pk_seq pk_fn))))))))) (by kernel_rfl) rfl ?_
 refine a_take (i := 2) rfl wanted_none (y_move rfl) (fun w h => h) (fun w h => h) rfl (pk_blk (pk_seq (pk_loop (pk_blk (pk_blk (pk_seq (pk_loop (pk_blk (pk_seq pk_fn))))))))) (by kernel_rfl) rfl ?_
 refine a_take (i := 3) rfl wanted_none (y_takes  Tryz.underlying50 ty_38 rfl rfl rfl (by omega) (cap_L 1 rfl)) (fun w h => h) (fun w h => h) rfl (pk_blk (pk_seq (pk_loop (pk_blk (pk_blk (pk_seq (pk_loop (pk_blk (pk_seq pk_fn))))))))) (by kernel_rfl) rfl ?_
 refine a_take (i := 5) rfl wanted_none (y_loadrs 0 ty_38 rfl rfl rfl rfl) (fun w h => h) (fun w h => h) rfl (pk_blk (pk_seq (pk_loop (pk_blk (pk_blk (pk_seq (pk_loop (pk_blk (pk_seq pk_fn))))))))) (by kernel_rfl) rfl ?_
 refine a_take (i := 8) rfl wanted_none (y_move rfl) (fun w h => h) (fun w h => h) rfl (pk_blk (pk_seq (pk_loop (pk_blk (pk_blk (pk_seq (pk_loop (pk_blk (pk_seq pk_fn))))))))) (by kernel_rfl) rfl ?_
 refine a_take (i := 9) rfl wanted_none (y_move rfl) (fun w h => h) (fun w h => h) rfl (pk_blk (pk_seq (pk_loop (pk_blk (pk_blk (pk_seq (pk_loop (pk_blk (pk_seq pk_fn))))))))) (by kernel_rfl) rfl ?_
 refine a_take (i := 10) rfl wanted_none (y_drop  Tryz.underlying50 ty_38 rfl rfl rfl (by omega)) (fun w h => h) (fun w h => h) rfl (pk_blk (pk_seq (pk_loop (pk_blk (pk_blk (pk_seq (pk_loop (pk_blk (pk_seq pk_fn))))))))) (by kernel_rfl) rfl ?_
 refine a_many (js := [0, 6]) (by kernel_rfl) rfl ?_
 refine wr_cons (i := 0) rfl rfl rfl (fun _ _ _ => tame_op (by kernel_rfl)) rfl ?_ ?_
 refine o_bsl (vs := []) (([] : List Rt) : List (Rt)) enc_rt Tryz.underlying50 ty_38 rfl rfl rfl rfl rfl rfl (fun As33 => ?_)
 refine wl_nil ?_
 refine e_one (fun w h => h.weak (.cons _ (List.Sublist.refl _)) (fun s hs => hs)) ?_
 refine a_many (js := [4, 6]) (by kernel_rfl) rfl ?_
 refine wr_cons (i := 4) rfl rfl rfl (fun _ _ _ => tame_op (by kernel_rfl)) rfl ?_ ?_
 refine o_appm (enc := rtC) (sz := 5) (zs.take j) Tryz.underlying50 ty_38 rfl rfl rfl (fun A c => .z) (fun w hw => RsP.src Tryz.underlying50 (rd_takeL enc_rt 2 rfl (by omega) hw).1) (by simp only [List.length_append, List.length_take, List.length_drop, List.length_cons, List.length_nil]; omega) (by simp only [List.length_append, List.length_take, List.length_drop, List.length_cons, List.length_nil]; omega) rfl (fun A33 c33 => ?_)
 refine wl_nil ?_
 refine e_one (fun w h => h.weak (.cons _ (List.Sublist.refl _)) (fun s hs => hs)) ?_
 refine a_one (i := 6) rfl rfl rfl (fun _ _ _ => tame_op (by kernel_rfl)) (by kernel_rfl) rfl ?_
 refine o_bsl (vs := [_]) ([R9] : List (Rt)) enc_rt Tryz.underlying50 ty_38 rfl rfl rfl rfl rfl rfl (fun As35 => ?_)
 refine wl_nil ?_
 refine e_one (fun w h => h.weak (.cons _ (.cons _ (List.Sublist.refl _))) (fun s hs => hs)) ?_
 refine a_one (i := 7) rfl rfl rfl (fun _ _ _ => tame_op (by kernel_rfl)) (by kernel_rfl) rfl ?_
 refine o_appm (enc := rtC) (sz := 5) [R9] Tryz.underlying50 ty_38 rfl rfl rfl (fun A c => (.s (.z))) (src_L 0 Tryz.underlying50 rfl) (by simp only [List.length_append, List.length_take, List.length_drop, List.length_cons, List.length_nil]; omega) (by simp only [List.length_append, List.length_take, List.length_drop, List.length_cons, List.length_nil]; omega) rfl (fun A35 c35 => ?_)
 refine wl_nil ?_
 refine e_one (fun w h => h.weak (.cons _ (.cons _ (List.Sublist.refl _))) (fun s hs => hs)) ?_
 refine a_one (i := 11) rfl rfl rfl (fun _ _ _ => tame_op (by kernel_rfl)) (by kernel_rfl) rfl ?_
 refine o_appm (enc := rtC) (sz := 5) (zs.drop j) Tryz.underlying50 ty_38 rfl rfl rfl (fun A c => (.s (.z))) (fun w hw => RsP.src Tryz.underlying50 (rd_dropL enc_rt 3 rfl (by omega) hw).1) (by simp only [List.length_append, List.length_take, List.length_drop, List.length_cons, List.length_nil]; omega) (by simp only [List.length_append, List.length_take, List.length_drop, List.length_cons, List.length_nil]; omega) rfl (fun A36 c36 => ?_)
 refine wl_nil ?_
 refine e_one (fun w h => h.weak (.cons _ (.cons _ (List.Sublist.refl _))) (fun s hs => hs)) ?_
 refine a_take (i := 12) rfl wanted_none (y_assign rfl) (fun w h => h.weak (.cons _ (.cons _ (List.Sublist.refl _))) (fun s hs => hs)) (fun w h => h) rfl (pk_blk (pk_seq (pk_loop (pk_blk (pk_blk (pk_seq (pk_loop (pk_blk (pk_seq pk_fn))))))))) (by kernel_rfl) rfl ?_
 refine a_done (by kernel_rfl) ?_
 refine e_blk ?_
 refine e_seq ?_
 refine w_region ?_
 refine o_y (y_move rfl) rfl rfl ?_
 refine o_y (y_addi rfl rfl (by omega) (by omega)) rfl rfl ?_
 refine o_y (y_assign rfl) rfl rfl ?_
 refine wl_nil ?_
 refine e_back ((k + 1, zs.take j ++ [R9] ++ zs.drop j, A36, c36)) ?_ ?_ ⟨rfl, rfl, trivial⟩ (by repeat (first | exact trivial | refine ⟨rfl, ?_⟩)) (fun w h => h.weak (.cons _ (.cons_cons _ (.cons _ (.cons _ (.cons_cons _ (List.Sublist.refl _)))))) (fun s hs => hs))
 exact ⟨by show k + 1 ≤ _; omega, by show (zs.take j ++ [R9] ++ zs.drop j).length ≤ 1000 * i + (k + 1); simp only [List.length_append, List.length_take, List.length_drop, List.length_cons, List.length_nil]; omega, by subst hR9; exact ams_mono (ams_ins hI8 hI.1 hI.2 (fun h9 => by first | exact absurd h9 (by omega) | exact ⟨by first | exact h10_14 | omega, h12_13⟩) (hof (l.getD i le0).e.host _ (by rw [hal0]; exact mem_getD (d := ad0) hk))) (ka_one hk)⟩
 show al.length - (k + 1) < al.length - k
 omega
 refine wr_cons (i := 6) rfl rfl rfl (fun _ _ _ => tame_op (by kernel_rfl)) rfl ?_ ?_
 refine o_bsl (vs := [_]) ([R9] : List (Rt)) enc_rt Tryz.underlying50 ty_38 rfl rfl rfl rfl rfl rfl (fun As38 => ?_)
 refine wl_nil ?_
 refine e_one (fun w h => h.weak (.cons _ (.cons _ (List.Sublist.refl _))) (fun s hs => hs)) ?_
 refine a_one (i := 4) rfl rfl rfl (fun _ _ _ => tame_op (by kernel_rfl)) (by kernel_rfl) rfl ?_
 refine o_appm (enc := rtC) (sz := 5) (zs.take j) Tryz.underlying50 ty_38 rfl rfl rfl (fun A c => (.s (.z))) (fun w hw => RsP.src Tryz.underlying50 (rd_takeL enc_rt 3 rfl (by omega) hw).1) (by simp only [List.length_append, List.length_take, List.length_drop, List.length_cons, List.length_nil]; omega) (by simp only [List.length_append, List.length_take, List.length_drop, List.length_cons, List.length_nil]; omega) rfl (fun A38 c38 => ?_)
 refine wl_nil ?_
 refine e_one (fun w h => h.weak (.cons _ (.cons _ (List.Sublist.refl _))) (fun s hs => hs)) ?_
 refine a_one (i := 7) rfl rfl rfl (fun _ _ _ => tame_op (by kernel_rfl)) (by kernel_rfl) rfl ?_
 refine o_appm (enc := rtC) (sz := 5) [R9] Tryz.underlying50 ty_38 rfl rfl rfl (fun A c => (.s (.z))) (src_L 0 Tryz.underlying50 rfl) (by simp only [List.length_append, List.length_take, List.length_drop, List.length_cons, List.length_nil]; omega) (by simp only [List.length_append, List.length_take, List.length_drop, List.length_cons, List.length_nil]; omega) rfl (fun A39 c39 => ?_)
 refine wl_nil ?_
 refine e_one (fun w h => h.weak (.cons _ (.cons _ (List.Sublist.refl _))) (fun s hs => hs)) ?_
 refine a_one (i := 11) rfl rfl rfl (fun _ _ _ => tame_op (by kernel_rfl)) (by kernel_rfl) rfl ?_
 refine o_appm (enc := rtC) (sz := 5) (zs.drop j) Tryz.underlying50 ty_38 rfl rfl rfl (fun A c => (.s (.z))) (fun w hw => RsP.src Tryz.underlying50 (rd_dropL enc_rt 3 rfl (by omega) hw).1) (by simp only [List.length_append, List.length_take, List.length_drop, List.length_cons, List.length_nil]; omega) (by simp only [List.length_append, List.length_take, List.length_drop, List.length_cons, List.length_nil]; omega) rfl (fun A40 c40 => ?_)
 refine wl_nil ?_
 refine e_one (fun w h => h.weak (.cons _ (.cons _ (List.Sublist.refl _))) (fun s hs => hs)) ?_
 refine a_take (i := 12) rfl wanted_none (y_assign rfl) (fun w h => h.weak (.cons _ (.cons _ (List.Sublist.refl _))) (fun s hs => hs)) (fun w h => h) rfl (pk_blk (pk_seq (pk_loop (pk_blk (pk_blk (pk_seq (pk_loop (pk_blk (pk_seq pk_fn))))))))) (by kernel_rfl) rfl ?_
 refine a_done (by kernel_rfl) ?_
 refine e_blk ?_
 refine e_seq ?_
 refine w_region ?_
 refine o_y (y_move rfl) rfl rfl ?_
 refine o_y (y_addi rfl rfl (by omega) (by omega)) rfl rfl ?_
 refine o_y (y_assign rfl) rfl rfl ?_
 refine wl_nil ?_
 refine e_back ((k + 1, zs.take j ++ [R9] ++ zs.drop j, A40, c40)) ?_ ?_ ⟨rfl, rfl, trivial⟩ (by repeat (first | exact trivial | refine ⟨rfl, ?_⟩)) (fun w h => h.weak (.cons _ (.cons_cons _ (.cons _ (.cons _ (.cons_cons _ (List.Sublist.refl _)))))) (fun s hs => hs))
 exact ⟨by show k + 1 ≤ _; omega, by show (zs.take j ++ [R9] ++ zs.drop j).length ≤ 1000 * i + (k + 1); simp only [List.length_append, List.length_take, List.length_drop, List.length_cons, List.length_nil]; omega, by subst hR9; exact ams_mono (ams_ins hI8 hI.1 hI.2 (fun h9 => by first | exact absurd h9 (by omega) | exact ⟨by first | exact h10_14 | omega, h12_13⟩) (hof (l.getD i le0).e.host _ (by rw [hal0]; exact mem_getD (d := ad0) hk))) (ka_one hk)⟩
 show al.length - (k + 1) < al.length - k
 omega
 exact wr_nil
 refine wr_cons (i := 6) rfl rfl rfl (fun _ _ _ => tame_op (by kernel_rfl)) rfl ?_ ?_
 refine o_bsl (vs := [_]) ([R9] : List (Rt)) enc_rt Tryz.underlying50 ty_38 rfl rfl rfl rfl rfl rfl (fun As42 => ?_)
 refine wl_nil ?_
 refine e_one (fun w h => h.weak (.cons _ (List.Sublist.refl _)) (fun s hs => hs)) ?_
 refine a_one (i := 0) rfl rfl rfl (fun _ _ _ => tame_op (by kernel_rfl)) (by kernel_rfl) rfl ?_
 refine o_bsl (vs := []) (([] : List Rt) : List (Rt)) enc_rt Tryz.underlying50 ty_38 rfl rfl rfl rfl rfl rfl (fun As43 => ?_)
 refine wl_nil ?_
 refine e_one (fun w h => h.weak (.cons _ (.cons _ (List.Sublist.refl _))) (fun s hs => hs)) ?_
 refine a_one (i := 4) rfl rfl rfl (fun _ _ _ => tame_op (by kernel_rfl)) (by kernel_rfl) rfl ?_
 refine o_appm (enc := rtC) (sz := 5) (zs.take j) Tryz.underlying50 ty_38 rfl rfl rfl (fun A c => .z) (fun w hw => RsP.src Tryz.underlying50 (rd_takeL enc_rt 3 rfl (by omega) hw).1) (by simp only [List.length_append, List.length_take, List.length_drop, List.length_cons, List.length_nil]; omega) (by simp only [List.length_append, List.length_take, List.length_drop, List.length_cons, List.length_nil]; omega) rfl (fun A43 c43 => ?_)
 refine wl_nil ?_
 refine e_one (fun w h => h.weak (.cons _ (.cons _ (List.Sublist.refl _))) (fun s hs => hs)) ?_
 refine a_one (i := 7) rfl rfl rfl (fun _ _ _ => tame_op (by kernel_rfl)) (by kernel_rfl) rfl ?_
 refine o_appm (enc := rtC) (sz := 5) [R9] Tryz.underlying50 ty_38 rfl rfl rfl (fun A c => .z) (src_L 1 Tryz.underlying50 rfl) (by simp only [List.length_append, List.length_take, List.length_drop, List.length_cons, List.length_nil]; omega) (by simp only [List.length_append, List.length_take, List.length_drop, List.length_cons, List.length_nil]; omega) rfl (fun A44 c44 => ?_)
 refine wl_nil ?_
 refine e_one (fun w h => h.weak (.cons _ (.cons _ (List.Sublist.refl _))) (fun s hs => hs)) ?_
 refine a_one (i := 11) rfl rfl rfl (fun _ _ _ => tame_op (by kernel_rfl)) (by kernel_rfl) rfl ?_
 refine o_appm (enc := rtC) (sz := 5) (zs.drop j) Tryz.underlying50 ty_38 rfl rfl rfl (fun A c => .z) (fun w hw => RsP.src Tryz.underlying50 (rd_dropL enc_rt 3 rfl (by omega) hw).1) (by simp only [List.length_append, List.length_take, List.length_drop, List.length_cons, List.length_nil]; omega) (by simp only [List.length_append, List.length_take, List.length_drop, List.length_cons, List.length_nil]; omega) rfl (fun A45 c45 => ?_)
 refine wl_nil ?_
 refine e_one (fun w h => h.weak (.cons _ (.cons _ (List.Sublist.refl _))) (fun s hs => hs)) ?_
 refine a_take (i := 12) rfl wanted_none (y_assign rfl) (fun w h => h.weak (.cons _ (.cons _ (List.Sublist.refl _))) (fun s hs => hs)) (fun w h => h) rfl (pk_blk (pk_seq (pk_loop (pk_blk (pk_blk (pk_seq (pk_loop (pk_blk (pk_seq pk_fn))))))))) (by kernel_rfl) rfl ?_
 refine a_done (by kernel_rfl) ?_
 refine e_blk ?_
 refine e_seq ?_
 refine w_region ?_
 refine o_y (y_move rfl) rfl rfl ?_
 refine o_y (y_addi rfl rfl (by omega) (by omega)) rfl rfl ?_
 refine o_y (y_assign rfl) rfl rfl ?_
 refine wl_nil ?_
 refine e_back ((k + 1, zs.take j ++ [R9] ++ zs.drop j, A45, c45)) ?_ ?_ ⟨rfl, rfl, trivial⟩ (by repeat (first | exact trivial | refine ⟨rfl, ?_⟩)) (fun w h => h.weak (.cons_cons _ (.cons _ (.cons _ (.cons _ (.cons_cons _ (List.Sublist.refl _)))))) (fun s hs => hs))
 exact ⟨by show k + 1 ≤ _; omega, by show (zs.take j ++ [R9] ++ zs.drop j).length ≤ 1000 * i + (k + 1); simp only [List.length_append, List.length_take, List.length_drop, List.length_cons, List.length_nil]; omega, by subst hR9; exact ams_mono (ams_ins hI8 hI.1 hI.2 (fun h9 => by first | exact absurd h9 (by omega) | exact ⟨by first | exact h10_14 | omega, h12_13⟩) (hof (l.getD i le0).e.host _ (by rw [hal0]; exact mem_getD (d := ad0) hk))) (ka_one hk)⟩
 show al.length - (k + 1) < al.length - k
 omega
 exact wr_nil
 refine a_take (i := 2) rfl wanted_none (y_move rfl) (fun w h => h) (fun w h => h) rfl (pk_seq (pk_seq (pk_blk (pk_seq (pk_loop (pk_blk (pk_blk (pk_seq (pk_loop (pk_blk (pk_seq pk_fn))))))))))) (by kernel_rfl) rfl ?_
 refine a_skip (i := 3) rfl (wanted_no rfl rfl rfl) (fun w h => h) rfl (pk_seq (pk_seq (pk_blk (pk_seq (pk_loop (pk_blk (pk_blk (pk_seq (pk_loop (pk_blk (pk_seq pk_fn))))))))))) (by kernel_rfl) rfl ?_
 refine a_skip (i := 4) rfl (wanted_no rfl rfl rfl) (fun w h => h) rfl (pk_seq (pk_seq (pk_blk (pk_seq (pk_loop (pk_blk (pk_blk (pk_seq (pk_loop (pk_blk (pk_seq pk_fn))))))))))) (by kernel_rfl) rfl ?_
 refine a_skip (i := 5) rfl (wanted_no rfl rfl rfl) (fun w h => h) rfl (pk_seq (pk_seq (pk_blk (pk_seq (pk_loop (pk_blk (pk_blk (pk_seq (pk_loop (pk_blk (pk_seq pk_fn))))))))))) (by kernel_rfl) rfl ?_
 refine a_skip (i := 6) rfl (wanted_no rfl rfl rfl) (fun w h => h) rfl (pk_seq (pk_seq (pk_blk (pk_seq (pk_loop (pk_blk (pk_blk (pk_seq (pk_loop (pk_blk (pk_seq pk_fn))))))))))) (by kernel_rfl) rfl ?_
 refine a_skip (i := 7) rfl (wanted_no rfl rfl rfl) (fun w h => h) rfl (pk_seq (pk_seq (pk_blk (pk_seq (pk_loop (pk_blk (pk_blk (pk_seq (pk_loop (pk_blk (pk_seq pk_fn))))))))))) (by kernel_rfl) rfl ?_
 refine a_skip (i := 8) rfl (wanted_no rfl rfl rfl) (fun w h => h) rfl (pk_seq (pk_seq (pk_blk (pk_seq (pk_loop (pk_blk (pk_blk (pk_seq (pk_loop (pk_blk (pk_seq pk_fn))))))))))) (by kernel_rfl) rfl ?_
 refine a_skip (i := 9) rfl (wanted_no rfl rfl rfl) (fun w h => h) rfl (pk_seq (pk_seq (pk_blk (pk_seq (pk_loop (pk_blk (pk_blk (pk_seq (pk_loop (pk_blk (pk_seq pk_fn))))))))))) (by kernel_rfl) rfl ?_
 refine a_skip (i := 10) rfl (wanted_no rfl rfl rfl) (fun w h => h) rfl (pk_seq (pk_seq (pk_blk (pk_seq (pk_loop (pk_blk (pk_blk (pk_seq (pk_loop (pk_blk (pk_seq pk_fn))))))))))) (by kernel_rfl) rfl ?_
 refine a_skip (i := 11) rfl (wanted_no rfl rfl rfl) (fun w h => h) rfl (pk_seq (pk_seq (pk_blk (pk_seq (pk_loop (pk_blk (pk_blk (pk_seq (pk_loop (pk_blk (pk_seq pk_fn))))))))))) (by kernel_rfl) rfl ?_
 refine a_skip (i := 12) rfl (wanted_no rfl rfl rfl) (fun w h => h) rfl (pk_seq (pk_seq (pk_blk (pk_seq (pk_loop (pk_blk (pk_blk (pk_seq (pk_loop (pk_blk (pk_seq pk_fn))))))))))) (by kernel_rfl) rfl ?_
 refine a_skip (i := 13) rfl (wanted_no rfl rfl rfl) (fun w h => h) rfl (pk_seq (pk_seq (pk_blk (pk_seq (pk_loop (pk_blk (pk_blk (pk_seq (pk_loop (pk_blk (pk_seq pk_fn))))))))))) (by kernel_rfl) rfl ?_
 refine a_take (i := 14) rfl wanted_none (y_pick_f rfl rfl) (fun w h => h) (fun w h => h) rfl (pk_seq (pk_seq (pk_blk (pk_seq (pk_loop (pk_blk (pk_blk (pk_seq (pk_loop (pk_blk (pk_seq pk_fn))))))))))) (by kernel_rfl) rfl ?_
 refine a_done (by kernel_rfl) ?_
 refine e_seq ?_
 refine w_cond_f rfl ?_
 refine w_skip ?_
 refine e_seq ?_
 refine w_seq ?_
 refine w_region ?_
 refine o_y (y_move rfl) rfl rfl ?_
 refine o_y (y_move rfl) rfl rfl ?_
 refine o_y (y_move rfl) rfl rfl ?_
 refine o_y (y_ixm  Tryz.underlying43 ty_28 rfl rfl (rs_L 1 rfl) rfl (by omega)) rfl rfl ?_
 refine o_y (y_ldsm0 enc_ad ad0 ty_28 rfl (rs_L 1 rfl) (by omega) rfl rfl rfl) rfl rfl ?_
 refine o_callq rfl ent_22 rfl (c_ref19_Find v l A c b Q hs qc (al.getD k ad0) hok hlen h0 H hhl hhh) (fun w hw => (rd_cons (rd_S 0 rfl hw) (rd_cons (rd_S 1 rfl hw) (rd_cons (rd_S 2 rfl hw) (rd_cons (rd_S 3 rfl hw) rd_nil))))) ?_
 generalize hR9 : rtE (l.map (·.e)) hs (al.getD k ad0) = R9
 generalize hR8 : (ofE (l.map (·.e)) hs (al.getD k ad0)).isSome = R8
 refine o_y (y_move rfl) rfl rfl ?_
 refine o_y (y_extract rfl rfl) rfl rfl ?_
 refine o_y (y_extract rfl rfl) rfl rfl ?_
 refine o_alloc ty_38 rfl rfl (fun b47 => ?_)
 refine o_store ty_38 rfl rfl rfl .z rfl rfl rfl rfl ?_
 refine o_y (y_assign rfl) rfl rfl ?_
 refine wl_nil ?_
 refine e_seq ?_
 refine w_draw 13 rfl mixed ?_
 refine a_take (i := 1) rfl wanted_none (y_move rfl) (fun w h => h) (fun w h => h) rfl (pk_blk (pk_seq (pk_loop (pk_blk (pk_blk (pk_seq (pk_loop (pk_blk (pk_seq pk_fn))))))))) (by kernel_rfl) rfl ?_
 refine a_take (i := 2) rfl wanted_none (y_move rfl) (fun w h => h) (fun w h => h) rfl (pk_blk (pk_seq (pk_loop (pk_blk (pk_blk (pk_seq (pk_loop (pk_blk (pk_seq pk_fn))))))))) (by kernel_rfl) rfl ?_
 refine a_take (i := 3) rfl wanted_none (y_takes  Tryz.underlying50 ty_38 rfl rfl rfl (by omega) (cap_L 1 rfl)) (fun w h => h) (fun w h => h) rfl (pk_blk (pk_seq (pk_loop (pk_blk (pk_blk (pk_seq (pk_loop (pk_blk (pk_seq pk_fn))))))))) (by kernel_rfl) rfl ?_
 refine a_take (i := 5) rfl wanted_none (y_loadrs 0 ty_38 rfl rfl rfl rfl) (fun w h => h) (fun w h => h) rfl (pk_blk (pk_seq (pk_loop (pk_blk (pk_blk (pk_seq (pk_loop (pk_blk (pk_seq pk_fn))))))))) (by kernel_rfl) rfl ?_
 refine a_take (i := 8) rfl wanted_none (y_move rfl) (fun w h => h) (fun w h => h) rfl (pk_blk (pk_seq (pk_loop (pk_blk (pk_blk (pk_seq (pk_loop (pk_blk (pk_seq pk_fn))))))))) (by kernel_rfl) rfl ?_
 refine a_take (i := 9) rfl wanted_none (y_move rfl) (fun w h => h) (fun w h => h) rfl (pk_blk (pk_seq (pk_loop (pk_blk (pk_blk (pk_seq (pk_loop (pk_blk (pk_seq pk_fn))))))))) (by kernel_rfl) rfl ?_
 refine a_take (i := 10) rfl wanted_none (y_drop  Tryz.underlying50 ty_38 rfl rfl rfl (by omega)) (fun w h => h) (fun w h => h) rfl (pk_blk (pk_seq (pk_loop (pk_blk (pk_blk (pk_seq (pk_loop (pk_blk (pk_seq pk_fn))))))))) (by kernel_rfl) rfl ?_
 refine a_many (js := [0, 6]) (by kernel_rfl) rfl ?_
 refine wr_cons (i := 0) rfl rfl rfl (fun _ _ _ => tame_op (by kernel_rfl)) rfl ?_ ?_
 refine o_bsl (vs := []) (([] : List Rt) : List (Rt)) enc_rt Tryz.underlying50 ty_38 rfl rfl rfl rfl rfl rfl (fun As48 => ?_)
 refine wl_nil ?_
 refine e_one (fun w h => h.weak (.cons _ (List.Sublist.refl _)) (fun s hs => hs)) ?_
 refine a_many (js := [4, 6]) (by kernel_rfl) rfl ?_
 refine wr_cons (i := 4) rfl rfl rfl (fun _ _ _ => tame_op (by kernel_rfl)) rfl ?_ ?_
 refine o_appm (enc := rtC) (sz := 5) (zs.take j) Tryz.underlying50 ty_38 rfl rfl rfl (fun A c => .z) (fun w hw => RsP.src Tryz.underlying50 (rd_takeL enc_rt 2 rfl (by omega) hw).1) (by simp only [List.length_append, List.length_take, List.length_drop, List.length_cons, List.length_nil]; omega) (by simp only [List.length_append, List.length_take, List.length_drop, List.length_cons, List.length_nil]; omega) rfl (fun A48 c48 => ?_)
 refine wl_nil ?_
 refine e_one (fun w h => h.weak (.cons _ (List.Sublist.refl _)) (fun s hs => hs)) ?_
 refine a_one (i := 6) rfl rfl rfl (fun _ _ _ => tame_op (by kernel_rfl)) (by kernel_rfl) rfl ?_
 refine o_bsl (vs := [_]) ([R9] : List (Rt)) enc_rt Tryz.underlying50 ty_38 rfl rfl rfl rfl rfl rfl (fun As50 => ?_)
 refine wl_nil ?_
 refine e_one (fun w h => h.weak (.cons _ (.cons _ (List.Sublist.refl _))) (fun s hs => hs)) ?_
 refine a_one (i := 7) rfl rfl rfl (fun _ _ _ => tame_op (by kernel_rfl)) (by kernel_rfl) rfl ?_
 refine o_appm (enc := rtC) (sz := 5) [R9] Tryz.underlying50 ty_38 rfl rfl rfl (fun A c => (.s (.z))) (src_L 0 Tryz.underlying50 rfl) (by simp only [List.length_append, List.length_take, List.length_drop, List.length_cons, List.length_nil]; omega) (by simp only [List.length_append, List.length_take, List.length_drop, List.length_cons, List.length_nil]; omega) rfl (fun A50 c50 => ?_)
 refine wl_nil ?_
 refine e_one (fun w h => h.weak (.cons _ (.cons _ (List.Sublist.refl _))) (fun s hs => hs)) ?_
 refine a_one (i := 11) rfl rfl rfl (fun _ _ _ => tame_op (by kernel_rfl)) (by kernel_rfl) rfl ?_
 refine o_appm (enc := rtC) (sz := 5) (zs.drop j) Tryz.underlying50 ty_38 rfl rfl rfl (fun A c => (.s (.z))) (fun w hw => RsP.src Tryz.underlying50 (rd_dropL enc_rt 3 rfl (by omega) hw).1) (by simp only [List.length_append, List.length_take, List.length_drop, List.length_cons, List.length_nil]; omega) (by simp only [List.length_append, List.length_take, List.length_drop, List.length_cons, List.length_nil]; omega) rfl (fun A51 c51 => ?_)
 refine wl_nil ?_
 refine e_one (fun w h => h.weak (.cons _ (.cons _ (List.Sublist.refl _))) (fun s hs => hs)) ?_
 refine a_take (i := 12) rfl wanted_none (y_assign rfl) (fun w h => h.weak (.cons _ (.cons _ (List.Sublist.refl _))) (fun s hs => hs)) (fun w h => h) rfl (pk_blk (pk_seq (pk_loop (pk_blk (pk_blk (pk_seq (pk_loop (pk_blk (pk_seq pk_fn))))))))) (by kernel_rfl) rfl ?_
 refine a_done (by kernel_rfl) ?_
 refine e_blk ?_
 refine e_seq ?_
 refine w_region ?_
 refine o_y (y_move rfl) rfl rfl ?_
 refine o_y (y_addi rfl rfl (by omega) (by omega)) rfl rfl ?_
 refine o_y (y_assign rfl) rfl rfl ?_
 refine wl_nil ?_
 refine e_back ((k + 1, zs.take j ++ [R9] ++ zs.drop j, A51, c51)) ?_ ?_ ⟨rfl, rfl, trivial⟩ (by repeat (first | exact trivial | refine ⟨rfl, ?_⟩)) (fun w h => h.weak (.cons _ (.cons_cons _ (.cons _ (.cons _ (.cons_cons _ (List.Sublist.refl _)))))) (fun s hs => hs))
 exact ⟨by show k + 1 ≤ _; omega, by show (zs.take j ++ [R9] ++ zs.drop j).length ≤ 1000 * i + (k + 1); simp only [List.length_append, List.length_take, List.length_drop, List.length_cons, List.length_nil]; omega, by subst hR9; exact ams_mono (ams_ins hI8 hI.1 hI.2 (fun h9 => by first | exact absurd h9 (by omega) | exact ⟨by first | exact h10_14 | omega, h12_13⟩) (hof (l.getD i le0).e.host _ (by rw [hal0]; exact mem_getD (d := ad0) hk))) (ka_one hk)⟩
 show al.length - (k + 1) < al.length - k
 omega
 refine wr_cons (i := 6) rfl rfl rfl (fun _ _ _ => tame_op (by kernel_rfl)) rfl ?_ ?_
 refine o_bsl (vs := [_]) ([R9] : List (Rt)) enc_rt Tryz.underlying50 ty_38 rfl rfl rfl rfl rfl rfl (fun As53 => ?_)
 refine wl_nil ?_
 refine e_one (fun w h => h.weak (.cons _ (.cons _ (List.Sublist.refl _))) (fun s hs => hs)) ?_
 refine a_one (i := 4) rfl rfl rfl (fun _ _ _ => tame_op (by kernel_rfl)) (by kernel_rfl) rfl ?_
 refine o_appm (enc := rtC) (sz := 5) (zs.take j) Tryz.underlying50 ty_38 rfl rfl rfl (fun A c => (.s (.z))) (fun w hw => RsP.src Tryz.underlying50 (rd_takeL enc_rt 3 rfl (by omega) hw).1) (by simp only [List.length_append, List.length_take, List.length_drop, List.length_cons, List.length_nil]; omega) (by simp only [List.length_append, List.length_take, List.length_drop, List.length_cons, List.length_nil]; omega) rfl (fun A53 c53 => ?_)
 refine wl_nil ?_
 refine e_one (fun w h => h.weak (.cons _ (.cons _ (List.Sublist.refl _))) (fun s hs => hs)) ?_
 refine a_one (i := 7) rfl rfl rfl (fun _ _ _ => tame_op (by kernel_rfl)) (by kernel_rfl) rfl ?_
 refine o_appm (enc := rtC) (sz := 5) [R9] Tryz.underlying50 ty_38 rfl rfl rfl (fun A c => (.s (.z))) (src_L 0 Tryz.underlying50 rfl) (by simp only [List.length_append, List.length_take, List.length_drop, List.length_cons, List.length_nil]; omega) (by simp only [List.length_append, List.length_take, List.length_drop, List.length_cons, List.length_nil]; omega) rfl (fun A54 c54 => ?_)
 refine wl_nil ?_
 refine e_one (fun w h => h.weak (.cons _ (.cons _ (List.Sublist.refl _))) (fun s hs => hs)) ?_
 refine a_one (i := 11) rfl rfl rfl (fun _ _ _ => tame_op (by kernel_rfl)) (by kernel_rfl) rfl ?_
 refine o_appm (enc := rtC) (sz := 5) (zs.drop j) Tryz.underlying50 ty_38 rfl rfl rfl (fun A c => (.s (.z))) (fun w hw => RsP.src Tryz.underlying50 (rd_dropL enc_rt 3 rfl (by omega) hw).1) (by simp only [List.length_append, List.length_take, List.length_drop, List.length_cons, List.length_nil]; omega) (by simp only [List.length_append, List.length_take, List.length_drop, List.length_cons, List.length_nil]; omega) rfl (fun A55 c55 => ?_)
 refine wl_nil ?_
 refine e_one (fun w h => h.weak (.cons _ (.cons _ (List.Sublist.refl _))) (fun s hs => hs)) ?_
 refine a_take (i := 12) rfl wanted_none (y_assign rfl) (fun w h => h.weak (.cons _ (.cons _ (List.Sublist.refl _))) (fun s hs => hs)) (fun w h => h) rfl (pk_blk (pk_seq (pk_loop (pk_blk (pk_blk (pk_seq (pk_loop (pk_blk (pk_seq pk_fn))))))))) (by kernel_rfl) rfl ?_
 refine a_done (by kernel_rfl) ?_
 refine e_blk ?_
 refine e_seq ?_
 refine w_region ?_
 refine o_y (y_move rfl) rfl rfl ?_
 refine o_y (y_addi rfl rfl (by omega) (by omega)) rfl rfl ?_
 refine o_y (y_assign rfl) rfl rfl ?_
 refine wl_nil ?_
 refine e_back ((k + 1, zs.take j ++ [R9] ++ zs.drop j, A55, c55)) ?_ ?_ ⟨rfl, rfl, trivial⟩ (by repeat (first | exact trivial | refine ⟨rfl, ?_⟩)) (fun w h => h.weak (.cons _ (.cons_cons _ (.cons _ (.cons _ (.cons_cons _ (List.Sublist.refl _)))))) (fun s hs => hs))
 exact ⟨by show k + 1 ≤ _; omega, by show (zs.take j ++ [R9] ++ zs.drop j).length ≤ 1000 * i + (k + 1); simp only [List.length_append, List.length_take, List.length_drop, List.length_cons, List.length_nil]; omega, by subst hR9; exact ams_mono (ams_ins hI8 hI.1 hI.2 (fun h9 => by first | exact absurd h9 (by omega) | exact ⟨by first | exact h10_14 | omega, h12_13⟩) (hof (l.getD i le0).e.host _ (by rw [hal0]; exact mem_getD (d := ad0) hk))) (ka_one hk)⟩
 show al.length - (k + 1) < al.length - k
 omega
 exact wr_nil
 refine wr_cons (i := 6) rfl rfl rfl (fun _ _ _ => tame_op (by kernel_rfl)) rfl ?_ ?_
 refine o_bsl (vs := [_]) ([R9] : List (Rt)) enc_rt Tryz.underlying50 ty_38 rfl rfl rfl rfl rfl rfl (fun As57 => ?_)
 refine wl_nil ?_
 refine e_one (fun w h => h.weak (.cons _ (List.Sublist.refl _)) (fun s hs => hs)) ?_
 refine a_one (i := 0) rfl rfl rfl (fun _ _ _ => tame_op (by kernel_rfl)) (by kernel_rfl) rfl ?_
 refine o_bsl (vs := []) (([] : List Rt) : List (Rt)) enc_rt Tryz.underlying50 ty_38 rfl rfl rfl rfl rfl rfl (fun As58 => ?_)
 refine wl_nil ?_
 refine e_one (fun w h => h.weak (.cons _ (.cons _ (List.Sublist.refl _))) (fun s hs => hs)) ?_
 refine a_one (i := 4) rfl rfl rfl (fun _ _ _ => tame_op (by kernel_rfl)) (by kernel_rfl) rfl ?_
 refine o_appm (enc := rtC) (sz := 5) (zs.take j) Tryz.underlying50 ty_38 rfl rfl rfl (fun A c => .z) (fun w hw => RsP.src Tryz.underlying50 (rd_takeL enc_rt 3 rfl (by omega) hw).1) (by simp only [List.length_append, List.length_take, List.length_drop, List.length_cons, List.length_nil]; omega) (by simp only [List.length_append, List.length_take, List.length_drop, List.length_cons, List.length_nil]; omega) rfl (fun A58 c58 => ?_)
 refine wl_nil ?_
 refine e_one (fun w h => h.weak (.cons _ (.cons _ (List.Sublist.refl _))) (fun s hs => hs)) ?_
 refine a_one (i := 7) rfl rfl rfl (fun _ _ _ => tame_op (by kernel_rfl)) (by kernel_rfl) rfl ?_
 refine o_appm (enc := rtC) (sz := 5) [R9] Tryz.underlying50 ty_38 rfl rfl rfl (fun A c => .z) (src_L 1 Tryz.underlying50 rfl) (by simp only [List.length_append, List.length_take, List.length_drop, List.length_cons, List.length_nil]; omega) (by simp only [List.length_append, List.length_take, List.length_drop, List.length_cons, List.length_nil]; omega) rfl (fun A59 c59 => ?_)
 refine wl_nil ?_
 refine e_one (fun w h => h.weak (.cons _ (.cons _ (List.Sublist.refl _))) (fun s hs => hs)) ?_
 refine a_one (i := 11) rfl rfl rfl (fun _ _ _ => tame_op (by kernel_rfl)) (by kernel_rfl) rfl ?_
 refine o_appm (enc := rtC) (sz := 5) (zs.drop j) Tryz.underlying50 ty_38 rfl rfl rfl (fun A c => .z) (fun w hw => RsP.src Tryz.underlying50 (rd_dropL enc_rt 3 rfl (by omega) hw).1) (by simp only [List.length_append, List.length_take, List.length_drop, List.length_cons, List.length_nil]; omega) (by simp only [List.length_append, List.length_take, List.length_drop, List.length_cons, List.length_nil]; omega) rfl (fun A60 c60 => ?_)
 refine wl_nil ?_
 refine e_one (fun w h => h.weak (.cons _ (.cons _ (List.Sublist.refl _))) (fun s hs => hs)) ?_
 refine a_take (i := 12) rfl wanted_none (y_assign rfl) (fun w h => h.weak (.cons _ (.cons _ (List.Sublist.refl _))) (fun s hs => hs)) (fun w h => h) rfl (pk_blk (pk_seq (pk_loop (pk_blk (pk_blk (pk_seq (pk_loop (pk_blk (pk_seq pk_fn))))))))) (by kernel_rfl) rfl ?_
 refine a_done (by kernel_rfl) ?_
 refine e_blk ?_
 refine e_seq ?_
 refine w_region ?_
 refine o_y (y_move rfl) rfl rfl ?_
 refine o_y (y_addi rfl rfl (by omega) (by omega)) rfl rfl ?_
 refine o_y (y_assign rfl) rfl rfl ?_
 refine wl_nil ?_
 refine e_back ((k + 1, zs.take j ++ [R9] ++ zs.drop j, A60, c60)) ?_ ?_ ⟨rfl, rfl, trivial⟩ (by repeat (first | exact trivial | refine ⟨rfl, ?_⟩)) (fun w h => h.weak (.cons_cons _ (.cons _ (.cons _ (.cons _ (.cons_cons _ (List.Sublist.refl _)))))) (fun s hs => hs))
 exact ⟨by show k + 1 ≤ _; omega, by show (zs.take j ++ [R9] ++ zs.drop j).length ≤ 1000 * i + (k + 1); simp only [List.length_append, List.length_take, List.length_drop, List.length_cons, List.length_nil]; omega, by subst hR9; exact ams_mono (ams_ins hI8 hI.1 hI.2 (fun h9 => by first | exact absurd h9 (by omega) | exact ⟨by first | exact h10_14 | omega, h12_13⟩) (hof (l.getD i le0).e.host _ (by rw [hal0]; exact mem_getD (d := ad0) hk))) (ka_one hk)⟩
 show al.length - (k + 1) < al.length - k
 omega
 exact wr_nil
 refine wl_nil ?_
 refine e_seq ?_
 refine w_cond_f rfl ?_
 refine w_exit ?_
 refine e_seq_exit ?_
 refine e_loop_exit ?_
 refine e_blk_hit ?_
 refine e_blk ?_
 refine e_seq ?_
 refine w_region ?_
 refine o_y (y_move rfl) rfl rfl ?_
 refine o_y (y_addi rfl rfl (by omega) (by omega)) rfl rfl ?_
 refine o_y (y_assign rfl) rfl rfl ?_
 refine wl_nil ?_
 refine e_back ((i + 1, zs, Aq, cq)) ?_ ?_ ⟨rfl, rfl, trivial⟩ (by repeat (first | exact trivial | refine ⟨rfl, ?_⟩)) (fun w h => h.weak (.cons_cons _ (.cons _ (List.Sublist.refl _))) (fun s hs => hs))
 exact ⟨by show i + 1 ≤ _; omega, by show zs.length ≤ 1000 * (i + 1); omega, ams_mono hI.2.2 (ka_row hal0 (by omega))⟩
 show l.length - (i + 1) < l.length - i
 omega
 refine wl_nil ?_
 refine e_seq ?_
 refine w_cond_f rfl ?_
 refine w_exit ?_
 refine e_seq_exit ?_
 refine e_loop_exit ?_
 refine e_blk_hit ?_
 refine e_seq ?_
 refine w_seq ?_
 refine w_region ?_
 refine o_y (y_move rfl) rfl rfl ?_
 refine o_y (y_assign rfl) rfl rfl ?_
 refine wl_nil ?_
 refine e_seq ?_
 refine w_ret ?_
 refine e_ret (ts := [2]) rfl rfl rfl (fun w hw => ?_)
 obtain rfl : i = l.length := by omega
 exact ⟨⟨(zs, Aq, cq), hI.2.2, by show zs.length ≤ 1000000; omega⟩, rfl, hw.base, (hw.weak (.cons_cons _ .slnil) (fun s hs => hs)).toNews⟩
end Go.Proofs.YtfmelbpgkbiooaaGreat
