import Derived.Test.YtnpdgmoeoidppaaUaQc
/- tables: parts of pushes, cuts, places, sorts -/
namespace Go.Proofs.Ytnpdgmoeoidppaa
open Go.RowKit Go.Shelf
set_option linter.unusedVariables false
set_option linter.unusedSimpArgs false

theorem bu_142_0 (x0 : aW) : Try.prog.built 142 [(0, .string (ba x0))] = some [.string (ba x0)].toArray := by kernel_rfl
theorem ent_121 : Enters Try.prog 121 := enters_of Try.func121 (by kernel_rfl) rfl
theorem ent_79 : Enters Try.prog 79 := enters_of Try.func79 (by kernel_rfl) rfl
theorem ent_80 : Enters Try.prog 80 := enters_of Try.func80 (by kernel_rfl) rfl
theorem ent_81 : Enters Try.prog 81 := enters_of Try.func81 (by kernel_rfl) rfl
theorem fa_142_0 : FA Try.prog 142 0 0 := fun b o w => by kernel_rfl
theorem fa_27_0 : FA Try.prog 27 0 0 := fun b o w => by kernel_rfl
theorem fa_27_1 : FA Try.prog 27 1 1 := fun b o w => by kernel_rfl
theorem fa_27_2 : FA Try.prog 27 2 2 := fun b o w => by kernel_rfl
theorem fa_27_3 : FA Try.prog 27 3 3 := fun b o w => by kernel_rfl
theorem fa_27_4 : FA Try.prog 27 4 4 := fun b o w => by kernel_rfl
theorem ty_142 : TyI Try.prog 142 true 1 16 (.agg #[.string ⟨#[]⟩]) := TyI.mk' (by kernel_rfl) (fun _ => by kernel_rfl)
theorem ty_27 : TyI Try.prog 27 true 5 72 (.agg #[.bool false, .int .i64 0, .int .i64 0, .slice none 0 0, .slice none 0 0]) := TyI.mk' (by kernel_rfl) (fun _ => by kernel_rfl)

theorem c_Clone_en (l : List Le) (A : Option Addr) (c : Nat) (hl : l.length ≤ 1000000) : RC Try.prog 42 #[.slice A l.length c] [Ch.rd A 7 dT l] (α := Option Addr × Nat) (fun p => .slice p.1 l.length p.2) (fun p => [Ch.ls p.1 p.2 44 7 dT l]) := by
 refine bZ (args := [.slice A l.length c]) 8 Try.func42 rfl rfl rfl (fun w0 => ?_)
 refine ap ?_
 refine ah ?_
 refine au (aj rfl) rfl rfl ?_
 refine aa ?_
 refine am ?_
 refine ap ?_
 refine ap ?_
 refine ah ?_
 refine au (ak rfl) rfl rfl ?_
 refine au (y_eqsn Try.underlying22 rfl rfl) rfl rfl ?_
 refine b6 (t := 4) rfl (fun h1_1 => ?_) (fun h1_1 => ?_)
 refine aa ?_
 refine am ?_
 refine aI rfl ?_
 refine ap ?_
 refine ah ?_
 refine au (aj rfl) rfl rfl ?_
 refine aa ?_
 refine am ?_
 refine aU ?_
 refine aA ?_
 refine aX (ts := [2]) rfl rfl rfl (fun w hw => ?_)
 have hr : RsP A l.length 7 _ w := hw.sh _ List.mem_cons_self
 have h0 : l = [] := List.length_eq_zero_iff.1 (rs_none hr h1_1)
 subst h0
 exact ⟨(none, 0), rfl, hw.base, (hw.nilsl 44 7).toNews⟩
 refine aa ?_
 refine am ?_
 refine aK rfl ?_
 refine aZ ?_
 refine am ?_
 refine ap ?_
 refine ah ?_
 refine bh (vs := []) ([] : List (Le)) bw Try.underlying22 a7 rfl rfl rfl rfl rfl rfl (fun As1 => ?_)
 refine au (ak rfl) rfl rfl ?_
 refine d1 (enc := dT) (sz := 7) l Try.underlying22 a7 rfl rfl rfl (fun A c => .z) (src_S 0 Try.underlying22 rfl) (by simp only [List.length_cons, List.length_nil, Nat.zero_add]; omega) (by simp only [List.length_cons, List.length_nil, Nat.zero_add]; omega) rfl (fun A1 c1 => ?_)
 refine au (aj rfl) rfl rfl ?_
 refine aa ?_
 refine am ?_
 refine aU ?_
 refine aX (ts := [2]) rfl rfl rfl (fun w hw => ?_)
 exact ⟨(A1, c1), rfl, hw.base, hw.toNews⟩

theorem eraseIdx_cut {α : Type} {xs : List α} {i : Nat} (hi : i < xs.length) : (xs.take i ++ xs.drop (i + 1) ++ xs.drop (xs.length - (i + 1 - i))).take (xs.length - (i + 1 - i)) = xs.eraseIdx i := by
  rw [List.eraseIdx_eq_take_drop_succ, show i + 1 - i = 1 by omega, List.take_append_of_le_length (by simp; omega), List.take_of_length_le (by simp; omega)]
theorem eraseIdx_len {α : Type} {xs : List α} {i : Nat} (hi : i < xs.length) : (xs.eraseIdx i).length = xs.length - (i + 1 - i) := by
  rw [List.length_eraseIdx, if_pos hi]; omega

set_option maxRecDepth 100000 in
theorem c_Delete (xs : List Le) (A : Option Addr) (c i : Nat) (hi : i < xs.length) (hl : xs.length ≤ 1000000) : UC Try.prog 44 #[.slice A xs.length c, .int .i64 i, .int .i64 ((i : Int) + 1)] [] (Ch.ls A c 44 7 dT xs) (α := Unit) (fun _ => .slice A (xs.eraseIdx i).length c) (fun _ => Ch.ls A c 44 7 dT (xs.eraseIdx i)) := by
 refine fI (args := [.slice A xs.length c, .int .i64 i, .int .i64 ((i : Int) + 1)]) 33 Try.func44 rfl rfl rfl (fun w0 => ?_)
 refine ap ?_
 refine ah ?_
 refine au (aj rfl) rfl rfl ?_
 refine aa ?_
 refine am ?_
 refine ap ?_
 refine ah ?_
 refine au (ak rfl) rfl rfl ?_
 refine au (ak rfl) rfl rfl ?_
 refine au (ak rfl) rfl rfl ?_
 refine au (ak rfl) rfl rfl ?_
 refine au (bu Try.underlying22 rfl) rfl rfl ?_
 refine au (y_slice3 (m := i) (k := i + 1) (q := xs.length) Try.underlying22 a7 rfl rfl rfl rfl rfl (by omega) rfl (by omega) (by omega) (cap_L 0 rfl)) rfl rfl ?_
 refine aa ?_
 refine am ?_
 refine ap ?_
 refine ap ?_
 refine ah ?_
 refine au (ak rfl) rfl rfl ?_
 refine au (ak rfl) rfl rfl ?_
 refine au (bW rfl rfl) rfl rfl ?_
 refine wl_af (t := 16) rfl (by omega) ?_
 refine aa ?_
 refine am ?_
 refine aK rfl ?_
 refine aZ ?_
 refine am ?_
 refine ap ?_
 refine ah ?_
 refine au (ak rfl) rfl rfl ?_
 refine au (bu Try.underlying22 rfl) rfl rfl ?_
 refine au (aj rfl) rfl rfl ?_
 refine aa ?_
 refine am ?_
 refine ap ?_
 refine eG 6 rfl mixed ?_
 refine aq (i := 0) rfl ae (ak rfl) aD aD rfl (ai ar) (by kernel_rfl) rfl ?_
 refine aq (i := 1) rfl ae (ak rfl) aD aD rfl (ai ar) (by kernel_rfl) rfl ?_
 refine aq (i := 2) rfl ae (y_takes (m := i) Try.underlying22 a7 rfl rfl (by omega) (by omega) (cap_L 0 rfl)) aD aD rfl (ai ar) (by kernel_rfl) rfl ?_
 refine aq (i := 3) rfl ae (ak rfl) aD aD rfl (ai ar) (by kernel_rfl) rfl ?_
 refine aq (i := 4) rfl ae (ak rfl) aD aD rfl (ai ar) (by kernel_rfl) rfl ?_
 refine aq (i := 5) rfl ae (y_drop (m := i + 1) Try.underlying22 a7 rfl rfl (by omega) (by omega)) aD aD rfl (ai ar) (by kernel_rfl) rfl ?_
 refine aQ (i := 6) rfl rfl rfl (fun _ _ _ => az (by kernel_rfl)) (by kernel_rfl) rfl ?_
 refine o_cut (m := i) (j := i + 1) bw Try.underlying22 Try.underlying22 a7 rfl rfl rfl (by omega) (by omega) .z rfl ?_
 refine aa ?_
 refine cE rfl ?_
 refine aQ (i := 7) rfl rfl rfl (fun _ _ _ => az (by kernel_rfl)) (by kernel_rfl) rfl ?_
 refine au (aj rfl) rfl rfl ?_
 refine aa ?_
 refine cE rfl ?_
 refine b0 (by kernel_rfl) ?_
 refine am ?_
 refine ap ?_
 refine ah ?_
 refine au (ak rfl) rfl rfl ?_
 refine au (ak rfl) rfl rfl ?_
 refine au (bu Try.underlying22 rfl) rfl rfl ?_
 refine au (ak rfl) rfl rfl ?_
 refine au (y_slice2 (m := xs.length - (i + 1 - i)) (k := xs.length) Try.underlying22 a7 rfl rfl rfl rfl rfl (by omega) (fun w hw => by have h9 := cap_L 0 rfl w hw; simp at h9; omega)) rfl rfl ?_
 refine o_clr (m := xs.length - (i + 1 - i)) bw Try.underlying22 a7 rfl rfl rfl (by simp; omega) (by simp; omega) .z ?_
 refine aa ?_
 refine am ?_
 refine ap ?_
 refine ah ?_
 refine au (ak rfl) rfl rfl ?_
 refine au (aj rfl) rfl rfl ?_
 refine aa ?_
 refine am ?_
 refine aU ?_
 refine aX (ts := [6]) rfl rfl rfl (fun w hw => ?_)
 have hE := eraseIdx_cut hi
 have hL := eraseIdx_len hi
 rw [hE] at hw
 obtain ⟨h1, h2, h3⟩ := hw.uc
 exact ⟨(), by rw [hL]; rfl, h1, h2, h3⟩

theorem c_tcompare (h : aW) (y : Le) (n : Int) (hh : h.length ≤ 1000000000) (hy : y.e.host.length ≤ 1000000000) : d4 Try.prog 81 #[.agg #[.string (ba h)], .agg (dT y).toArray, .int .i64 n] (.int .i64 (bP y.e.host h)) := by
 intro w0
 refine bR (ok0 := no) (S := []) (args := [.agg #[.string (ba h)], .agg (dT y).toArray, .int .i64 n]) 12 Try.func81 rfl rfl rfl (by simp) (by simp) ?_
 refine ap ?_
 refine ah ?_
 refine da rfl rfl rfl (fun b1 => ?_)
 refine da rfl rfl rfl (fun b2 => ?_)
 refine au (aj rfl) rfl rfl ?_
 refine aa ?_
 refine am ?_
 refine ap ?_
 refine ah ?_
 refine au (aR db rfl) rfl rfl ?_
 refine au (aN 0 bN rfl rfl rfl) rfl rfl ?_
 refine au (aR fa_142_0 rfl) rfl rfl ?_
 refine au (aN 1 bN rfl rfl rfl) rfl rfl ?_
 refine bL rfl ent_47 (d0 y.e.host h (by omega) (by omega)) rfl ?_
 refine au (aj rfl) rfl rfl ?_
 refine aa ?_
 refine am ?_
 refine aU ?_
 refine aX (ts := [6]) rfl rfl rfl (fun w hw => ?_)
 exact ⟨rfl, hw.base⟩

/-- Where a host stands, or would stand. -/
def FdOk (l : List Le) (h : aW) (k : Nat) : Prop := k ≤ l.length ∧ (∀ q, q < k → bP (l.getD q bQ).e.host h < 0) ∧ ∀ q, k ≤ q → q < l.length → ¬ bP (l.getD q bQ).e.host h < 0
theorem tbe_at {l : List Le} (h : TbE (l.map (·.e))) {i j : Nat} (hij : i < j) (hj : j < l.length) : bP (l.getD i bQ).e.host (l.getD j bQ).e.host < 0 := by
  have := List.pairwise_iff_getElem.1 h.up i j (by rw [List.length_map]; omega) (by simpa using hj) hij
  rw [List.getElem_map, List.getElem_map] at this
  rw [List.getD_eq_getElem?_getD, List.getD_eq_getElem?_getD, List.getElem?_eq_getElem hj, List.getElem?_eq_getElem (show i < l.length by omega)]; exact this
theorem bs_lo {l : List Le} (h : TbE (l.map (·.e))) {x : aW} {k : Nat} (hk : k < l.length) (hc : bP (l.getD k bQ).e.host x < 0) : ∀ q, q < k + 1 → bP (l.getD q bQ).e.host x < 0 := fun q hq => by
  by_cases e : q = k
  · rw [e]; exact hc
  · exact c9 (tbe_at h (by omega) hk) hc
theorem bs_hi {l : List Le} (h : TbE (l.map (·.e))) {x : aW} {k : Nat} (hc : ¬ bP (l.getD k bQ).e.host x < 0) : ∀ q, k ≤ q → q < l.length → ¬ bP (l.getD q bQ).e.host x < 0 := fun q hq hl hn => by
  by_cases e : q = k
  · rw [e] at hn; exact hc hn
  · exact hc (c9 (tbe_at h (by omega) hl) hn)
def fdB (l : List Le) (h : aW) (k : Nat) : Bool := decide (k < l.length) && decide (bP (l.getD k bQ).e.host h = 0)
theorem fd_yes {l : List Le} (h : TbE (l.map (·.e))) {n : aW} (hn : bi n = 0) {k : Nat} (hb : fdB l (bg n) k = true) : k < l.length ∧ bS (l.map (·.e)) (bg n) = some (l.getD k bQ).e ∧ l.eraseIdx k = l.filter fun y => decide (bg y.e.host ≠ bg n) := by
  simp only [fdB, Bool.and_eq_true, decide_eq_true_eq] at hb
  obtain ⟨hk, hc⟩ := hb
  have hm := bD (d := bQ) hk
  have hme : (l.getD k bQ).e ∈ l.map (·.e) := List.mem_map.2 ⟨_, hm, rfl⟩
  have hf : bg (l.getD k bQ).e.host = bg n := by
    have := (dm (h.ck _ hme) (en hn)).1 hc
    rw [gE hn] at this; exact this
  refine ⟨hk, by rw [← hf]; exact look_some h.hosts hme, ?_⟩
  have e9 : l.getD k bQ = l[k] := by rw [List.getD_eq_getElem?_getD, List.getElem?_eq_getElem hk]; rfl
  have h1 : l = l.take k ++ l[k] :: l.drop (k + 1) := by rw [List.getElem_cons_drop, List.take_append_drop]
  have hne : ∀ y ∈ l.take k ++ l.drop (k + 1), bg y.e.host ≠ bg n := fun y hy q => by
    have h2 : ∃ j, j < l.length ∧ j ≠ k ∧ l.getD j bQ = y := by
      rcases List.mem_append.1 hy with hy | hy
      · obtain ⟨j, hj, rfl⟩ := List.mem_iff_getElem.1 hy
        have hj2 : j < k := by simp at hj; omega
        exact ⟨j, by omega, by omega, by rw [List.getElem_take, List.getD_eq_getElem?_getD, List.getElem?_eq_getElem (by omega)]; rfl⟩
      · obtain ⟨j, hj, rfl⟩ := List.mem_iff_getElem.1 hy
        have hj2 : k + 1 + j < l.length := by simp at hj; omega
        exact ⟨k + 1 + j, hj2, by omega, by rw [List.getElem_drop, List.getD_eq_getElem?_getD, List.getElem?_eq_getElem hj2]; rfl⟩
    obtain ⟨j, hj, hjk, rfl⟩ := h2
    have hje : (l.getD j bQ).e ∈ l.map (·.e) := List.mem_map.2 ⟨_, bD hj, rfl⟩
    have h3 := (dm (h.ck _ hje) (h.ck _ hme)).2 (q.trans hf.symm)
    have h4 := dg (l.getD j bQ).e.host (l.getD k bQ).e.host
    rcases Nat.lt_or_gt_of_ne hjk with h5 | h5
    · have := tbe_at h h5 hk; omega
    · have := tbe_at h h5 hj; omega
  rw [List.eraseIdx_eq_take_drop_succ]
  conv => rhs; rw [h1]
  rw [List.filter_append, List.filter_cons, if_neg (fun (q : decide (bg l[k].e.host ≠ bg n) = true) => of_decide_eq_true q (by rw [← e9]; exact hf))]
  rw [List.filter_eq_self.2 (fun y hy => decide_eq_true (hne y (List.mem_append_left _ hy))), List.filter_eq_self.2 (fun y hy => decide_eq_true (hne y (List.mem_append_right _ hy)))]
theorem fd_no {l : List Le} (h : TbE (l.map (·.e))) {n : aW} (hn : bi n = 0) {k : Nat} (hk : FdOk l (bg n) k) (hb : fdB l (bg n) k = false) : bS (l.map (·.e)) (bg n) = none := look_none.2 fun e he q => by
  obtain ⟨y, hy, rfl⟩ := List.mem_map.1 he
  obtain ⟨j, hj, rfl⟩ := List.mem_iff_getElem.1 hy
  have e9 : l.getD j bQ = l[j] := by rw [List.getD_eq_getElem?_getD, List.getElem?_eq_getElem hj]; rfl
  have hc : bP (l.getD j bQ).e.host (bg n) = 0 := by
    rw [e9]; exact (dm (h.ck _ he) (en hn)).2 (by rw [gE hn]; exact q)
  have hkj : ¬ j < k := fun h9 => by have := hk.2.1 j h9; omega
  by_cases e : j = k
  · subst e
    rw [fdB, decide_eq_true hj, decide_eq_true hc] at hb; cases hb
  · have h1 := tbe_at h (show k < j by omega) hj
    have h2 := hk.2.2 k (Nat.le_refl _) (by omega)
    have hke : (l.getD k bQ).e ∈ l.map (·.e) := List.mem_map.2 ⟨_, bD (by omega), rfl⟩
    have h3 := gN (en hn) (h.ck _ he) (by rw [gE hn]; exact q.symm) (l.getD k bQ).e.host
    have h4 := dg (bg n) (l.getD k bQ).e.host
    have h5 := dg (l.getD j bQ).e.host (l.getD k bQ).e.host
    rw [e9] at h1 h5
    omega

theorem c_BSearch (l : List Le) (A : Option Addr) (c : Nat) (h : aW) (ht : TbE (l.map (·.e))) (hl : l.length ≤ 1000000) (hh : h.length ≤ 1000000000) (hhl : ∀ x ∈ l, x.e.host.length ≤ 1000000000) : RC Try.prog 80 #[.slice A l.length c, .int .i64 0, .func (.func 81) #[.agg #[.string (ba h)]] #[]] [Ch.rd A 7 dT l] (α := {k : Nat // FdOk l h k}) (fun o => .tuple #[.int .i64 o.1, .bool (fdB l h o.1)]) (fun o => []) := by
 refine bZ (args := [.slice A l.length c, .int .i64 0, .func (.func 81) #[.agg #[.string (ba h)]] #[]]) 49 Try.func80 rfl rfl rfl (fun w0 => ?_)
 refine ap ?_
 refine ah ?_
 refine au (aj rfl) rfl rfl ?_
 refine au (aj rfl) rfl rfl ?_
 refine aa ?_
 refine am ?_
 refine ap ?_
 refine ah ?_
 refine au (ak rfl) rfl rfl ?_
 refine au (bu Try.underlying22 rfl) rfl rfl ?_
 refine au (aj rfl) rfl rfl ?_
 refine aa ?_
 refine am ?_
 refine ap ?_
 refine ah ?_
 refine au (ak rfl) rfl rfl ?_
 refine au (aj rfl) rfl rfl ?_
 refine au (aj rfl) rfl rfl ?_
 refine aa ?_
 refine am ?_
 refine ap ?_
 refine bk ?_
 refine dd (σ := Nat × Nat) [9, 10, 11, 15, 16, 17, 18, 19, 20, 21, 22, 23, 24, 25, 26, 27, 28, 29, 30, 31, 32, 33, 34] (fun q => q.1 ≤ q.2 ∧ q.2 ≤ l.length ∧ (∀ p, p < q.1 → bP (l.getD p bQ).e.host h < 0) ∧ ∀ p, q.2 ≤ p → p < l.length → ¬ bP (l.getD p bQ).e.host h < 0) (fun q => q.2 - q.1) (fun q => [(9, .int .i64 q.1), (10, .int .i64 q.2)]) ((0, l.length)) ?_ ⟨rfl, rfl, trivial⟩ (fun q hI => ?_)
 exact ⟨Nat.zero_le _, Nat.le_refl _, nofun, fun p h1 h2 => by omega⟩
 obtain ⟨i, j⟩ := q
 dsimp only at hI ⊢
 refine ap ?_
 refine ap ?_
 refine ah ?_
 refine au (ak rfl) rfl rfl ?_
 refine au (ak rfl) rfl rfl ?_
 refine au (cX rfl rfl) rfl rfl ?_
 refine aG (t := 17) rfl (fun h3_2 => ?_) (fun h3_2 => ?_)
 have hij : i < j := by omega
 refine aa ?_
 refine am ?_
 refine aI rfl ?_
 refine aZ ?_
 refine am ?_
 refine bk ?_
 refine ap ?_
 refine ah ?_
 refine au (ak rfl) rfl rfl ?_
 refine au (ak rfl) rfl rfl ?_
 refine au (cr rfl rfl (by omega) (by omega)) rfl rfl ?_
 refine au (y_convi Try.underlying3 Try.underlying147 rfl (wrap_u64 (by omega) (by omega))) rfl rfl ?_
 refine au (y_shr rfl rfl (by omega)) rfl rfl ?_
 refine du (t := 22) (.int .u64 (((i + j) / 2 : Nat) : Int)) rfl (by congr 1; show Int.fdiv ((i : Int) + (j : Int)) 2 = _; rw [Int.fdiv_eq_ediv_of_nonneg _ (by decide)]; omega) ?_
 obtain ⟨k, hkd⟩ : ∃ k, k = (i + j) / 2 := ⟨_, rfl⟩
 rw [← hkd]
 refine au (y_convi Try.underlying147 Try.underlying3 rfl (wrap_i64 (by omega) (by omega))) rfl rfl ?_
 refine au (aj rfl) rfl rfl ?_
 refine aa ?_
 refine am ?_
 refine ap ?_
 refine ah ?_
 refine au (ak rfl) rfl rfl ?_
 refine au (ak rfl) rfl rfl ?_
 refine au (ak rfl) rfl rfl ?_
 refine au (co  Try.underlying22 a7 rfl rfl (cI 0 rfl) rfl (by omega)) rfl rfl ?_
 refine au (de bw bQ a7 rfl (cI 0 rfl) (by omega) rfl rfl rfl) rfl rfl ?_
 refine au (ak rfl) rfl rfl ?_
 refine g4 rfl rfl rfl ent_81 (c_tcompare h (l.getD k bQ) 0 hh (hhl _ (bD (by omega)))) rfl ?_
 refine au (cX rfl rfl) rfl rfl ?_
 refine aG (t := 31) rfl (fun h5_7 => ?_) (fun h5_7 => ?_)
 refine aa ?_
 refine am ?_
 refine aI rfl ?_
 refine ah ?_
 refine au (ak rfl) rfl rfl ?_
 refine au (cr rfl rfl (by omega) (by omega)) rfl rfl ?_
 refine au (aj rfl) rfl rfl ?_
 refine aa ?_
 refine bV ?_
 refine cn ((k + 1, j)) ?_ ?_ ⟨rfl, rfl, trivial⟩ (by repeat (first | exact trivial | refine ⟨rfl, ?_⟩)) aD
 exact ⟨by show k + 1 ≤ j; omega, hI.2.1, bs_lo ht (by omega) h5_7, hI.2.2.2⟩
 show j - (k + 1) < j - i
 omega
 refine aa ?_
 refine am ?_
 refine aK rfl ?_
 refine ah ?_
 refine au (ak rfl) rfl rfl ?_
 refine au (aj rfl) rfl rfl ?_
 refine aa ?_
 refine bV ?_
 refine cn ((i, k)) ?_ ?_ ⟨rfl, rfl, trivial⟩ (by repeat (first | exact trivial | refine ⟨rfl, ?_⟩)) aD
 exact ⟨by show i ≤ k; omega, by show k ≤ _; omega, hI.2.2.1, bs_hi ht h5_7⟩
 show k - i < j - i
 omega
 refine aa ?_
 refine am ?_
 refine aK rfl ?_
 refine cB ?_
 refine bl ?_
 refine bq ?_
 refine bA ?_
 refine am ?_
 refine ap ?_
 refine ah ?_
 refine au (ak rfl) rfl rfl ?_
 refine au (ak rfl) rfl rfl ?_
 refine au (ak rfl) rfl rfl ?_
 refine au (cX rfl rfl) rfl rfl ?_
 refine aG (t := 38) rfl (fun h8_3 => ?_) (fun h8_3 => ?_)
 refine au (ak rfl) rfl rfl ?_
 refine av rfl rfl ?_
 refine au (ak rfl) rfl rfl ?_
 refine av rfl rfl ?_
 refine au (ak rfl) rfl rfl ?_
 refine av rfl rfl ?_
 refine au (ak rfl) rfl rfl ?_
 refine av rfl rfl ?_
 refine au (co  Try.underlying22 a7 rfl rfl (cI 0 rfl) rfl (by omega)) rfl rfl ?_
 refine av rfl rfl ?_
 refine au (de bw bQ a7 rfl (cI 0 rfl) (by omega) rfl rfl rfl) rfl rfl ?_
 refine av rfl rfl ?_
 refine au (ak rfl) rfl rfl ?_
 refine av rfl rfl ?_
 refine g4 rfl rfl rfl ent_81 (c_tcompare h (l.getD i bQ) 0 hh (hhl _ (bD (by omega)))) rfl ?_
 refine av rfl rfl ?_
 refine au (bW rfl rfl) rfl rfl ?_
 refine au (aF rfl rfl) rfl rfl ?_
 refine au (aj rfl) rfl rfl ?_
 refine au (aj rfl) rfl rfl ?_
 refine aa ?_
 refine am ?_
 refine aU ?_
 refine aX (ts := [6, 7]) rfl rfl rfl (fun w hw => ?_)
 have hF : FdOk l h i := ⟨by omega, hI.2.2.1, fun p h1 h2 => hI.2.2.2 p (by omega) h2⟩
 have hB : fdB l h i = decide (bP (l.getD i bQ).e.host h = 0) := by rw [fdB, decide_eq_true (by omega)]; rfl
 exact ⟨⟨i, hF⟩, by rw [hB]; rfl, hw.base, (hw.weak (List.nil_sublist _) (fun s hs => hs)).toNews⟩
 refine au (ak rfl) rfl rfl ?_
 refine aw rfl rfl rfl rfl ?_
 refine aw rfl rfl rfl rfl ?_
 refine aw rfl rfl rfl rfl ?_
 refine aw rfl rfl rfl rfl ?_
 refine aw rfl rfl rfl rfl ?_
 refine aw rfl rfl rfl rfl ?_
 refine aw rfl rfl rfl rfl ?_
 refine aw rfl rfl rfl rfl ?_
 refine au (aT rfl rfl) rfl rfl ?_
 refine au (aj rfl) rfl rfl ?_
 refine au (aj rfl) rfl rfl ?_
 refine aa ?_
 refine am ?_
 refine aU ?_
 refine aX (ts := [6, 7]) rfl rfl rfl (fun w hw => ?_)
 have hF : FdOk l h i := ⟨by omega, hI.2.2.1, fun p h1 h2 => hI.2.2.2 p (by omega) h2⟩
 have hB : fdB l h i = false := by rw [fdB, decide_eq_false (by omega)]; rfl
 exact ⟨⟨i, hF⟩, by rw [hB]; rfl, hw.base, (hw.weak (List.nil_sublist _) (fun s hs => hs)).toNews⟩

theorem c_tfind (l : List Le) (A : Option Addr) (c : Nat) (n : aW) (ht : TbE (l.map (·.e))) (hl : l.length ≤ 1000000) (hn0 : bi n = 0) (hnl : n.length ≤ 1000000) (hhl : ∀ x ∈ l, x.e.host.length ≤ 1000000000) : RC Try.prog 43 #[.slice A l.length c, .string (ba n)] [Ch.rd A 7 dT l] (α := {k : Nat // FdOk l (bg n) k}) (fun o => .tuple #[.int .i64 o.1, .bool (fdB l (bg n) o.1)]) (fun o => []) := by
 refine bZ (args := [.slice A l.length c, .string (ba n)]) 16 Try.func43 rfl rfl rfl (fun w0 => ?_)
 refine ap ?_
 refine ah ?_
 refine au (aj rfl) rfl rfl ?_
 refine au (aj rfl) rfl rfl ?_
 refine aa ?_
 refine am ?_
 refine ap ?_
 refine ah ?_
 refine au (ak rfl) rfl rfl ?_
 refine bL rfl ent_63 (e5 _ (by omega)) rfl ?_
 refine au (bB rfl (bu_142_0 _)) rfl rfl ?_
 refine bo ty_142 rfl rfl (fun b1 => ?_)
 refine bf ty_142 rfl rfl rfl .z rfl rfl rfl rfl ?_
 refine aa ?_
 refine am ?_
 refine ap ?_
 refine ah ?_
 refine au (ak rfl) rfl rfl ?_
 refine au (bj 0 ty_142 rfl rfl rfl rfl) rfl rfl ?_
 refine au (gF rfl rfl) rfl rfl ?_
 refine eP rfl ent_80 rfl (c_BSearch l A c (bg n) ht hl (by have := foldN_len hn0; omega) hhl) (fun w hw => (ao (cW 0 rfl hw) aM)) (fun ⟨k, hk⟩ => ?_)
 refine au (aL rfl rfl) rfl rfl ?_
 refine au (aL rfl rfl) rfl rfl ?_
 refine au (aj rfl) rfl rfl ?_
 refine au (aj rfl) rfl rfl ?_
 refine aa ?_
 refine am ?_
 refine aU ?_
 refine aX (ts := [4, 5]) rfl rfl rfl (fun w hw => ?_)
 exact ⟨⟨k, hk⟩, rfl, hw.base, (hw.weak (List.nil_sublist _) (fun s hs => hs)).toNews⟩

def gv (full : Bool) (bs ver : Int) (P : Option Addr) (np pc : Nat) (D : Option Addr) (nd dc : Nat) : List Value := [.bool full, .int .i64 bs, .int .i64 ver, .slice P np pc, .slice D nd dc]
theorem pk_len (put : List Le) (drop : List aW) : (dq put drop).length = put.length + drop.length := by simp [dq]
theorem pk_put {put : List Le} {drop : List aW} {k : Nat} (hk : k < put.length) : (dq put drop).getD k [] = bg (put.getD k bQ).e.host := by
  rw [dq, List.getD_eq_getElem?_getD, List.getElem?_append_left (by simpa using hk), List.getElem?_map, List.getD_eq_getElem?_getD, List.getElem?_eq_getElem hk]; rfl
theorem pk_drop {put : List Le} {drop : List aW} {k : Nat} (hk : k < drop.length) : (dq put drop).getD (put.length + k) [] = bg (drop.getD k []) := by
  rw [dq, List.getD_eq_getElem?_getD, List.getElem?_append_right (by simp), List.length_map, Nat.add_sub_cancel_left, List.getElem?_map, List.getD_eq_getElem?_getD, List.getElem?_eq_getElem hk]; rfl
theorem nd_no {ks : List aW} {k : Nat} (hk : k < ks.length) (h : ks.getD k [] ∈ ks.take k) : ¬ ks.Nodup := fun q => not_mem_take q hk h
theorem nd_succ {ks : List aW} {k : Nat} (hk : k < ks.length) (h : (ks.take k).Nodup) (h2 : ¬ ks.getD k [] ∈ ks.take k) : (ks.take (k + 1)).Nodup := by
  rw [dE ks [] k hk, List.nodup_append]
  exact ⟨h, by simp, fun a ha b hb e => by rw [List.mem_singleton.1 hb] at e; exact h2 (e ▸ ha)⟩

set_option maxRecDepth 100000 in
set_option maxHeartbeats 1000000 in
theorem c_hosts17 (full : Bool) (bs ver : Int) (put : List Le) (P : Option Addr) (pc : Nat) (drop : List aW) (D : Option Addr) (dc : Nat) (hpl : put.length ≤ 1000000) (hdl : drop.length ≤ 1000000) (hpb : ∀ x ∈ put, x.e.host.length ≤ 1000000) (hdb : ∀ n ∈ drop, n.length ≤ 1000000) : RC Try.prog 79 #[.agg (gv full bs ver P put.length pc D drop.length dc).toArray] [Ch.rd P 7 dT put, Ch.rd D 1 er drop] (α := Unit) (fun _ => .bool (decide (dq put drop).Nodup)) (fun _ => []) := by
 refine bZ (args := [.agg (gv full bs ver P put.length pc D drop.length dc).toArray]) 39 Try.func79 rfl rfl rfl (fun w0 => ?_)
 have hkl := pk_len put drop
 refine ap ?_
 refine ah ?_
 refine da rfl rfl rfl (fun b1 => ?_)
 refine au (aj rfl) rfl rfl ?_
 refine aa ?_
 refine am ?_
 refine ap ?_
 refine ah ?_
 refine o_makeMap (fun s : aW => .string (ba s)) (fun b : Bool => .bool b) rfl (fun r1 => ?_)
 refine au (aj rfl) rfl rfl ?_
 refine aa ?_
 refine am ?_
 refine ap ?_
 refine ap ?_
 refine ah ?_
 refine au (aR fa_27_3 rfl) rfl rfl ?_
 refine au (aN 1 bX rfl rfl rfl) rfl rfl ?_
 refine au (bu Try.underlying22 rfl) rfl rfl ?_
 refine au (ak rfl) rfl rfl ?_
 refine aa ?_
 refine am ?_
 refine bk ?_
 refine dZ (σ := Nat × List (aW × Bool)) [2, 5, 12, 13, 14, 15, 16, 17, 18, 19, 20, 21, 22, 23] (fun q => q.1 ≤ put.length ∧ MapIs q.2 ((dq put drop).take q.1) ∧ ((dq put drop).take q.1).Nodup) (fun q => put.length - q.1) (fun q => [(12, .int .i64 q.1)]) (fun q => Ch.mp r1 (fun s : aW => .string (ba s)) (fun b : Bool => .bool b) q.2) ((0, [])) ?_ ⟨rfl, trivial⟩ rfl (fun q hI => ?_)
 exact ⟨Nat.zero_le _, fun key => rfl, .nil⟩
 obtain ⟨k, mm⟩ := q
 dsimp only at hI ⊢
 refine ap ?_
 refine ah ?_
 refine au (cX rfl rfl) rfl rfl ?_
 refine aG (t := 13) rfl (fun h3_0 => ?_) (fun h3_0 => ?_)
 have hk : k < put.length := by omega
 have hhb := hpb _ (bD (d := bQ) hk)
 have hkk : ((dq put drop).getD k []) = bg (put.getD k bQ).e.host := pk_put hk
 have hk9 : k < (dq put drop).length := by omega
 refine aa ?_
 refine am ?_
 refine ap ?_
 refine aI rfl ?_
 refine aZ ?_
 refine am ?_
 refine ap ?_
 refine bk ?_
 refine ap ?_
 refine ah ?_
 refine au (co  Try.underlying22 a7 rfl rfl (cI 0 rfl) rfl (by omega)) rfl rfl ?_
 refine au (de bw bQ a7 rfl (cI 0 rfl) (by omega) rfl rfl rfl) rfl rfl ?_
 refine bo a7 rfl rfl (fun b3 => ?_)
 refine bf a7 rfl rfl rfl .z rfl rfl rfl rfl ?_
 refine aa ?_
 refine am ?_
 refine ap ?_
 refine ap ?_
 refine ah ?_
 refine au (ak rfl) rfl rfl ?_
 refine au (bj 0 a7 rfl rfl rfl rfl) rfl rfl ?_
 refine bL rfl ent_121 (c_entry_Key _ _ _ _ _ (by omega)) rfl ?_
 refine au (y_lookup Try.underlying114 (hJ Try.underlying37) ty_4 rfl rfl (fun w hw => hw.own _ (List.mem_of_getElem? (i := 1) rfl))) rfl rfl ?_
 refine du (t := 19) (.bool (decide (((dq put drop).getD k []) ∈ (dq put drop).take k))) rfl (by rw [hkk]; exact mapIs_val hI.2.1 _) ?_
 refine b6 (t := 19) rfl (fun h5_3 => ?_) (fun h5_3 => ?_)
 refine aa ?_
 refine am ?_
 refine aI rfl ?_
 refine ap ?_
 refine ah ?_
 refine au (aj rfl) rfl rfl ?_
 refine aa ?_
 refine am ?_
 refine aU ?_
 refine aA ?_
 refine aO ?_
 refine aA ?_
 refine bG ?_
 refine aO ?_
 refine aA ?_
 refine aX (ts := [2]) rfl rfl rfl (fun w hw => ?_)
 exact ⟨(), by rw [decide_eq_false (nd_no hk9 (of_decide_eq_true h5_3))]; rfl, hw.base, (hw.weak (List.nil_sublist _) (fun s hs => hs)).toNews⟩
 refine aa ?_
 refine am ?_
 refine aK rfl ?_
 refine aZ ?_
 refine am ?_
 refine ah ?_
 refine au (ak rfl) rfl rfl ?_
 refine au (bj 0 a7 rfl rfl rfl rfl) rfl rfl ?_
 refine bL rfl ent_121 (c_entry_Key _ _ _ _ _ (by omega)) rfl ?_
 refine o_mapUpd Try.underlying114 (hJ Try.underlying37) rfl rfl rfl (.s (.z)) ?_
 refine aa ?_
 refine bV ?_
 refine am ?_
 refine ah ?_
 refine au (cr rfl rfl (by omega) (by omega)) rfl rfl ?_
 refine au (ak rfl) rfl rfl ?_
 refine aa ?_
 refine cn ((k + 1, upd mm (bg (put.getD k bQ).e.host) true)) ?_ ?_ ⟨rfl, trivial⟩ (by repeat (first | exact trivial | refine ⟨rfl, ?_⟩)) (aJ 1)
 exact ⟨by show k + 1 ≤ _; omega, by rw [← hkk]; exact mapIs_succ hI.2.1 hk9, nd_succ hk9 hI.2.2 (of_decide_eq_false h5_3)⟩
 show put.length - (k + 1) < put.length - k
 omega
 refine aa ?_
 refine am ?_
 refine ap ?_
 refine aK rfl ?_
 refine cB ?_
 refine bl ?_
 refine bq ?_
 refine bA ?_
 refine am ?_
 refine ap ?_
 refine ap ?_
 refine ah ?_
 refine au (aR fa_27_4 rfl) rfl rfl ?_
 refine au (aN 1 ty_25 rfl rfl rfl) rfl rfl ?_
 refine au (bu Try.underlying25 rfl) rfl rfl ?_
 refine au (ak rfl) rfl rfl ?_
 refine aa ?_
 refine am ?_
 refine bk ?_
 obtain rfl : k = put.length := by omega
 refine dZ (σ := Nat × List (aW × Bool)) [2, 7, 27, 28, 29, 30, 31, 32, 33, 34, 35, 36, 37, 38] (fun q => q.1 ≤ drop.length ∧ MapIs q.2 ((dq put drop).take (put.length + q.1)) ∧ ((dq put drop).take (put.length + q.1)).Nodup) (fun q => drop.length - q.1) (fun q => [(27, .int .i64 q.1)]) (fun q => Ch.mp r1 (fun s : aW => .string (ba s)) (fun b : Bool => .bool b) q.2) ((0, mm)) ?_ ⟨rfl, trivial⟩ rfl (fun q hI => ?_)
 exact ⟨Nat.zero_le _, hI.2⟩
 obtain ⟨j, mj⟩ := q
 dsimp only at hI ⊢
 refine ap ?_
 refine ah ?_
 refine au (cX rfl rfl) rfl rfl ?_
 refine aG (t := 28) rfl (fun h10_0 => ?_) (fun h10_0 => ?_)
 have hj : j < drop.length := by omega
 have hhb := hdb _ (bD (d := ([] : aW)) hj)
 have hkk : ((dq put drop).getD (put.length + j) []) = bg (drop.getD j []) := pk_drop hj
 have hk9 : put.length + j < (dq put drop).length := by omega
 refine aa ?_
 refine am ?_
 refine ap ?_
 refine aI rfl ?_
 refine aZ ?_
 refine am ?_
 refine ap ?_
 refine bk ?_
 refine ap ?_
 refine ah ?_
 refine au (co  Try.underlying25 bN rfl rfl (cI 1 rfl) rfl (by omega)) rfl rfl ?_
 refine au (cP bm ([] : aW) bN rfl (cI 1 rfl) (by omega) rfl rfl) rfl rfl ?_
 refine au (aj rfl) rfl rfl ?_
 refine aa ?_
 refine am ?_
 refine ap ?_
 refine ap ?_
 refine ah ?_
 refine au (ak rfl) rfl rfl ?_
 refine au (ak rfl) rfl rfl ?_
 refine bL rfl ent_63 (e5 _ (by omega)) rfl ?_
 refine au (y_lookup Try.underlying114 (hJ Try.underlying37) ty_4 rfl rfl (fun w hw => hw.own _ (List.mem_of_getElem? (i := 0) rfl))) rfl rfl ?_
 refine du (t := 34) (.bool (decide (((dq put drop).getD (put.length + j) []) ∈ (dq put drop).take (put.length + j)))) rfl (by rw [hkk]; exact mapIs_val hI.2.1 _) ?_
 refine b6 (t := 34) rfl (fun h12_3 => ?_) (fun h12_3 => ?_)
 refine aa ?_
 refine am ?_
 refine aI rfl ?_
 refine ap ?_
 refine ah ?_
 refine au (aj rfl) rfl rfl ?_
 refine aa ?_
 refine am ?_
 refine aU ?_
 refine aA ?_
 refine aO ?_
 refine aA ?_
 refine bG ?_
 refine aO ?_
 refine aA ?_
 refine aX (ts := [2]) rfl rfl rfl (fun w hw => ?_)
 exact ⟨(), by rw [decide_eq_false (nd_no hk9 (of_decide_eq_true h12_3))]; rfl, hw.base, (hw.weak (List.nil_sublist _) (fun s hs => hs)).toNews⟩
 refine aa ?_
 refine am ?_
 refine aK rfl ?_
 refine aZ ?_
 refine am ?_
 refine ah ?_
 refine au (ak rfl) rfl rfl ?_
 refine au (ak rfl) rfl rfl ?_
 refine bL rfl ent_63 (e5 _ (by omega)) rfl ?_
 refine o_mapUpd Try.underlying114 (hJ Try.underlying37) rfl rfl rfl .z ?_
 refine aa ?_
 refine bV ?_
 refine am ?_
 refine ah ?_
 refine au (cr rfl rfl (by omega) (by omega)) rfl rfl ?_
 refine au (ak rfl) rfl rfl ?_
 refine aa ?_
 refine cn ((j + 1, upd mj (bg (drop.getD j [])) true)) ?_ ?_ ⟨rfl, trivial⟩ (by repeat (first | exact trivial | refine ⟨rfl, ?_⟩)) aD
 exact ⟨by show j + 1 ≤ _; omega, by rw [← hkk]; exact mapIs_succ hI.2.1 hk9, nd_succ hk9 hI.2.2 (of_decide_eq_false h12_3)⟩
 show drop.length - (j + 1) < drop.length - j
 omega
 refine aa ?_
 refine am ?_
 refine ap ?_
 refine aK rfl ?_
 refine cB ?_
 refine bl ?_
 refine bq ?_
 refine bA ?_
 refine am ?_
 refine ap ?_
 refine ah ?_
 refine au (aj rfl) rfl rfl ?_
 refine aa ?_
 refine am ?_
 refine aU ?_
 refine aX (ts := [2]) rfl rfl rfl (fun w hw => ?_)
 have hnd := hI.2.2
 rw [show put.length + j = (dq put drop).length by omega, List.take_length] at hnd
 exact ⟨(), by rw [decide_eq_true hnd]; rfl, hw.base, (hw.weak (List.nil_sublist _) (fun s hs => hs)).toNews⟩

theorem c_form17 (v : Int) (l : List Le) (A : Option Addr) (c : Nat) (full : Bool) (bs ver : Int) (put : List Le) (P : Option Addr) (pc : Nat) (drop : List aW) (D : Option Addr) (dc : Nat) : RC Try.prog 40 #[.agg (dU v A l.length c).toArray, .agg (gv full bs ver P put.length pc D drop.length dc).toArray] [] (α := Unit) (fun _ => .int .i64 (dl v full bs ver drop.length)) (fun _ => []) := by
 refine bZ (args := [.agg (dU v A l.length c).toArray, .agg (gv full bs ver P put.length pc D drop.length dc).toArray]) 41 Try.func40 rfl rfl rfl (fun w0 => ?_)
 refine ap ?_
 refine ah ?_
 refine da rfl rfl rfl (fun b1 => ?_)
 refine da rfl rfl rfl (fun b2 => ?_)
 refine au (aj rfl) rfl rfl ?_
 refine aa ?_
 refine am ?_
 refine ap ?_
 refine bk ?_
 refine ap ?_
 refine ah ?_
 refine au (aR fa_27_2 rfl) rfl rfl ?_
 refine au (aN 0 d6 rfl rfl rfl) rfl rfl ?_
 refine au (aR eY rfl) rfl rfl ?_
 refine au (aN 1 d6 rfl rfl rfl) rfl rfl ?_
 refine au (y_leq rfl rfl) rfl rfl ?_
 refine aG (t := 10) rfl (fun h1_4 => ?_) (fun h1_4 => ?_)
 refine au (ak rfl) rfl rfl ?_
 refine aw rfl rfl rfl rfl ?_
 refine aw rfl rfl rfl rfl ?_
 refine aw rfl rfl rfl rfl ?_
 refine au (aF rfl rfl) rfl rfl ?_
 refine au (aj rfl) rfl rfl ?_
 refine aa ?_
 refine am ?_
 refine aI rfl ?_
 refine ap ?_
 refine ah ?_
 refine au (aj rfl) rfl rfl ?_
 refine aa ?_
 refine am ?_
 refine aU ?_
 refine aO ?_
 refine aA ?_
 refine aX (ts := [4]) rfl rfl rfl (fun w hw => ?_)
 refine ⟨(), ?_, hw.base, (hw.weak (List.nil_sublist _) (fun s hs => hs)).toNews⟩
 show Ending.returned (.int _ _) = _
 congr 2
 unfold dl
 cases full <;> simp only [if_true, Bool.false_eq_true, if_false] <;> (repeat split) <;> first | rfl | (exfalso; omega) | (simp_all; done) | (simp_all; omega)
 refine au (ak rfl) rfl rfl ?_
 refine av rfl rfl ?_
 refine au (aR fa_27_2 rfl) rfl rfl ?_
 refine av rfl rfl ?_
 refine au (aN 0 d6 rfl rfl rfl) rfl rfl ?_
 refine av rfl rfl ?_
 refine au (em rfl rfl) rfl rfl ?_
 refine aG (t := 14) rfl (fun h1_8 => ?_) (fun h1_8 => ?_)
 refine au (aT rfl rfl) rfl rfl ?_
 refine au (aj rfl) rfl rfl ?_
 refine aa ?_
 refine am ?_
 refine aI rfl ?_
 refine ap ?_
 refine ah ?_
 refine au (aj rfl) rfl rfl ?_
 refine aa ?_
 refine am ?_
 refine aU ?_
 refine aO ?_
 refine aA ?_
 refine aX (ts := [4]) rfl rfl rfl (fun w hw => ?_)
 refine ⟨(), ?_, hw.base, (hw.weak (List.nil_sublist _) (fun s hs => hs)).toNews⟩
 show Ending.returned (.int _ _) = _
 congr 2
 unfold dl
 cases full <;> simp only [if_true, Bool.false_eq_true, if_false] <;> (repeat split) <;> first | rfl | (exfalso; omega) | (simp_all; done) | (simp_all; omega)
 refine au (aT rfl rfl) rfl rfl ?_
 refine au (aj rfl) rfl rfl ?_
 refine aa ?_
 refine am ?_
 refine aK rfl ?_
 refine ap ?_
 refine ah ?_
 refine au (aR fa_27_0 rfl) rfl rfl ?_
 refine au (aN 0 ty_4 rfl rfl rfl) rfl rfl ?_
 refine b6 (t := 18) rfl (fun h3_1 => ?_) (fun h3_1 => ?_)
 refine au (ak rfl) rfl rfl ?_
 refine av rfl rfl ?_
 refine au (aR fa_27_1 rfl) rfl rfl ?_
 refine av rfl rfl ?_
 refine au (aN 0 d6 rfl rfl rfl) rfl rfl ?_
 refine av rfl rfl ?_
 refine au (dA rfl rfl) rfl rfl ?_
 refine aG (t := 22) rfl (fun h3_5 => ?_) (fun h3_5 => ?_)
 refine av rfl rfl ?_
 refine au (ak rfl) rfl rfl ?_
 refine aw rfl rfl rfl rfl ?_
 refine aw rfl rfl rfl rfl ?_
 refine aw rfl rfl rfl rfl ?_
 refine aw rfl rfl rfl rfl ?_
 refine av rfl rfl ?_
 refine au (aF rfl rfl) rfl rfl ?_
 refine au (aF rfl rfl) rfl rfl ?_
 refine au (aj rfl) rfl rfl ?_
 refine aa ?_
 refine am ?_
 refine aI rfl ?_
 refine ap ?_
 refine ah ?_
 refine au (aj rfl) rfl rfl ?_
 refine aa ?_
 refine am ?_
 refine aU ?_
 refine aO ?_
 refine aA ?_
 refine aX (ts := [4]) rfl rfl rfl (fun w hw => ?_)
 refine ⟨(), ?_, hw.base, (hw.weak (List.nil_sublist _) (fun s hs => hs)).toNews⟩
 show Ending.returned (.int _ _) = _
 congr 2
 unfold dl
 cases full <;> simp only [if_true, Bool.false_eq_true, if_false] <;> (repeat split) <;> first | rfl | (exfalso; omega) | (simp_all; done) | (simp_all; omega)
 refine av rfl rfl ?_
 refine au (ak rfl) rfl rfl ?_
 refine av rfl rfl ?_
 refine au (aR fa_27_4 rfl) rfl rfl ?_
 refine av rfl rfl ?_
 refine au (aN 0 ty_25 rfl rfl rfl) rfl rfl ?_
 refine av rfl rfl ?_
 refine au (bu Try.underlying25 rfl) rfl rfl ?_
 refine av rfl rfl ?_
 refine au (em rfl rfl) rfl rfl ?_
 refine aG (t := 27) rfl (fun h3_10 => ?_) (fun h3_10 => ?_)
 refine av rfl rfl ?_
 refine au (aT rfl rfl) rfl rfl ?_
 refine au (aF rfl rfl) rfl rfl ?_
 refine au (aj rfl) rfl rfl ?_
 refine aa ?_
 refine am ?_
 refine aI rfl ?_
 refine ap ?_
 refine ah ?_
 refine au (aj rfl) rfl rfl ?_
 refine aa ?_
 refine am ?_
 refine aU ?_
 refine aO ?_
 refine aA ?_
 refine aX (ts := [4]) rfl rfl rfl (fun w hw => ?_)
 refine ⟨(), ?_, hw.base, (hw.weak (List.nil_sublist _) (fun s hs => hs)).toNews⟩
 show Ending.returned (.int _ _) = _
 congr 2
 unfold dl
 cases full <;> simp only [if_true, Bool.false_eq_true, if_false] <;> (repeat split) <;> first | rfl | (exfalso; omega) | (simp_all; done) | (simp_all; omega)
 refine av rfl rfl ?_
 refine au (aT rfl rfl) rfl rfl ?_
 refine au (aF rfl rfl) rfl rfl ?_
 refine au (aj rfl) rfl rfl ?_
 refine aa ?_
 refine am ?_
 refine aK rfl ?_
 refine ap ?_
 refine ah ?_
 refine au (aR fa_27_0 rfl) rfl rfl ?_
 refine au (aN 0 ty_4 rfl rfl rfl) rfl rfl ?_
 refine b6 (t := 32) rfl (fun h5_1 => ?_) (fun h5_1 => ?_)
 refine au (cC rfl) rfl rfl ?_
 refine au (ak rfl) rfl rfl ?_
 refine aw rfl rfl rfl rfl ?_
 refine aw rfl rfl rfl rfl ?_
 refine aw rfl rfl rfl rfl ?_
 refine aw rfl rfl rfl rfl ?_
 refine aw rfl rfl rfl rfl ?_
 refine au (aT rfl rfl) rfl rfl ?_
 refine au (aj rfl) rfl rfl ?_
 refine aa ?_
 refine am ?_
 refine aK rfl ?_
 refine aZ ?_
 refine bV ?_
 refine am ?_
 refine ap ?_
 refine ah ?_
 refine au (aj rfl) rfl rfl ?_
 refine aa ?_
 refine am ?_
 refine aU ?_
 refine aX (ts := [4]) rfl rfl rfl (fun w hw => ?_)
 refine ⟨(), ?_, hw.base, (hw.weak (List.nil_sublist _) (fun s hs => hs)).toNews⟩
 show Ending.returned (.int _ _) = _
 congr 2
 unfold dl
 cases full <;> simp only [if_true, Bool.false_eq_true, if_false] <;> (repeat split) <;> first | rfl | (exfalso; omega) | (simp_all; done) | (simp_all; omega)
 refine au (cC rfl) rfl rfl ?_
 refine au (ak rfl) rfl rfl ?_
 refine av rfl rfl ?_
 refine au (aR fa_27_1 rfl) rfl rfl ?_
 refine av rfl rfl ?_
 refine au (aN 0 d6 rfl rfl rfl) rfl rfl ?_
 refine av rfl rfl ?_
 refine au (aR eY rfl) rfl rfl ?_
 refine av rfl rfl ?_
 refine au (aN 1 d6 rfl rfl rfl) rfl rfl ?_
 refine av rfl rfl ?_
 refine au (dA rfl rfl) rfl rfl ?_
 refine aG (t := 39) rfl (fun h5_8 => ?_) (fun h5_8 => ?_)
 refine au (aF rfl rfl) rfl rfl ?_
 refine au (aj rfl) rfl rfl ?_
 refine aa ?_
 refine am ?_
 refine aI rfl ?_
 refine ap ?_
 refine ah ?_
 refine au (aj rfl) rfl rfl ?_
 refine aa ?_
 refine am ?_
 refine aU ?_
 refine aO ?_
 refine aA ?_
 refine aX (ts := [4]) rfl rfl rfl (fun w hw => ?_)
 refine ⟨(), ?_, hw.base, (hw.weak (List.nil_sublist _) (fun s hs => hs)).toNews⟩
 show Ending.returned (.int _ _) = _
 congr 2
 unfold dl
 cases full <;> simp only [if_true, Bool.false_eq_true, if_false] <;> (repeat split) <;> first | rfl | (exfalso; omega) | (simp_all; done) | (simp_all; omega)
 refine au (aF rfl rfl) rfl rfl ?_
 refine au (aj rfl) rfl rfl ?_
 refine aa ?_
 refine am ?_
 refine aK rfl ?_
 refine aZ ?_
 refine bV ?_
 refine am ?_
 refine ap ?_
 refine ah ?_
 refine au (aj rfl) rfl rfl ?_
 refine aa ?_
 refine am ?_
 refine aU ?_
 refine aX (ts := [4]) rfl rfl rfl (fun w hw => ?_)
 refine ⟨(), ?_, hw.base, (hw.weak (List.nil_sublist _) (fun s hs => hs)).toNews⟩
 show Ending.returned (.int _ _) = _
 congr 2
 unfold dl
 cases full <;> simp only [if_true, Bool.false_eq_true, if_false] <;> (repeat split) <;> first | rfl | (exfalso; omega) | (simp_all; done) | (simp_all; omega)
 refine au (ak rfl) rfl rfl ?_
 refine aw rfl rfl rfl rfl ?_
 refine aw rfl rfl rfl rfl ?_
 refine aw rfl rfl rfl rfl ?_
 refine aw rfl rfl rfl rfl ?_
 refine cK rfl rfl rfl ?_
 refine cK rfl rfl rfl ?_
 refine cK rfl rfl rfl ?_
 refine cK rfl rfl rfl ?_
 refine aw rfl rfl rfl rfl ?_
 refine au (aT rfl rfl) rfl rfl ?_
 refine au (aj rfl) rfl rfl ?_
 refine aa ?_
 refine am ?_
 refine aK rfl ?_
 refine ap ?_
 refine ah ?_
 refine au (aR fa_27_0 rfl) rfl rfl ?_
 refine au (aN 0 ty_4 rfl rfl rfl) rfl rfl ?_
 refine b6 (t := 32) rfl (fun h5_1 => ?_) (fun h5_1 => ?_)
 refine au (cC rfl) rfl rfl ?_
 refine au (ak rfl) rfl rfl ?_
 refine aw rfl rfl rfl rfl ?_
 refine aw rfl rfl rfl rfl ?_
 refine aw rfl rfl rfl rfl ?_
 refine aw rfl rfl rfl rfl ?_
 refine aw rfl rfl rfl rfl ?_
 refine au (aT rfl rfl) rfl rfl ?_
 refine au (aj rfl) rfl rfl ?_
 refine aa ?_
 refine am ?_
 refine aK rfl ?_
 refine aZ ?_
 refine bV ?_
 refine am ?_
 refine ap ?_
 refine ah ?_
 refine au (aj rfl) rfl rfl ?_
 refine aa ?_
 refine am ?_
 refine aU ?_
 refine aX (ts := [4]) rfl rfl rfl (fun w hw => ?_)
 refine ⟨(), ?_, hw.base, (hw.weak (List.nil_sublist _) (fun s hs => hs)).toNews⟩
 show Ending.returned (.int _ _) = _
 congr 2
 unfold dl
 cases full <;> simp only [if_true, Bool.false_eq_true, if_false] <;> (repeat split) <;> first | rfl | (exfalso; omega) | (simp_all; done) | (simp_all; omega)
 refine au (cC rfl) rfl rfl ?_
 refine au (ak rfl) rfl rfl ?_
 refine av rfl rfl ?_
 refine au (aR fa_27_1 rfl) rfl rfl ?_
 refine av rfl rfl ?_
 refine au (aN 0 d6 rfl rfl rfl) rfl rfl ?_
 refine av rfl rfl ?_
 refine au (aR eY rfl) rfl rfl ?_
 refine av rfl rfl ?_
 refine au (aN 1 d6 rfl rfl rfl) rfl rfl ?_
 refine av rfl rfl ?_
 refine au (dA rfl rfl) rfl rfl ?_
 refine aG (t := 39) rfl (fun h5_8 => ?_) (fun h5_8 => ?_)
 refine au (aF rfl rfl) rfl rfl ?_
 refine au (aj rfl) rfl rfl ?_
 refine aa ?_
 refine am ?_
 refine aI rfl ?_
 refine ap ?_
 refine ah ?_
 refine au (aj rfl) rfl rfl ?_
 refine aa ?_
 refine am ?_
 refine aU ?_
 refine aO ?_
 refine aA ?_
 refine aX (ts := [4]) rfl rfl rfl (fun w hw => ?_)
 refine ⟨(), ?_, hw.base, (hw.weak (List.nil_sublist _) (fun s hs => hs)).toNews⟩
 show Ending.returned (.int _ _) = _
 congr 2
 unfold dl
 cases full <;> simp only [if_true, Bool.false_eq_true, if_false] <;> (repeat split) <;> first | rfl | (exfalso; omega) | (simp_all; done) | (simp_all; omega)
 refine au (aF rfl rfl) rfl rfl ?_
 refine au (aj rfl) rfl rfl ?_
 refine aa ?_
 refine am ?_
 refine aK rfl ?_
 refine aZ ?_
 refine bV ?_
 refine am ?_
 refine ap ?_
 refine ah ?_
 refine au (aj rfl) rfl rfl ?_
 refine aa ?_
 refine am ?_
 refine aU ?_
 refine aX (ts := [4]) rfl rfl rfl (fun w hw => ?_)
 refine ⟨(), ?_, hw.base, (hw.weak (List.nil_sublist _) (fun s hs => hs)).toNews⟩
 show Ending.returned (.int _ _) = _
 congr 2
 unfold dl
 cases full <;> simp only [if_true, Bool.false_eq_true, if_false] <;> (repeat split) <;> first | rfl | (exfalso; omega) | (simp_all; done) | (simp_all; omega)

set_option maxRecDepth 100000 in
set_option maxHeartbeats 1000000 in
theorem c_parts17 (full : Bool) (bs ver : Int) (put : List Le) (P : Option Addr) (pc : Nat) (drop : List aW) (D : Option Addr) (dc : Nat) (hpok : TbOk put) (hpl : put.length ≤ 1000000) (hdl : drop.length ≤ 1000000) (hdb : ∀ n ∈ drop, n.length ≤ 1000000) : RC Try.prog 41 #[.agg (gv full bs ver P put.length pc D drop.length dc).toArray] [Ch.rd P 7 dT put, Ch.rall (put.flatMap fv), Ch.rd D 1 er drop] (α := Unit) (fun _ => .int .i64 (cy put drop)) (fun _ => []) := by
 refine bZ (args := [.agg (gv full bs ver P put.length pc D drop.length dc).toArray]) 38 Try.func41 rfl rfl rfl (fun w0 => ?_)
 have hpb : ∀ x ∈ put, x.e.host.length ≤ 1000000 := fun x hx => by have := hX (hpok x hx).2; omega
 refine ap ?_
 refine ah ?_
 refine da rfl rfl rfl (fun b1 => ?_)
 refine au (aj rfl) rfl rfl ?_
 refine aa ?_
 refine am ?_
 refine ap ?_
 refine ap ?_
 refine ah ?_
 refine au (aR fa_27_3 rfl) rfl rfl ?_
 refine au (aN 0 bX rfl rfl rfl) rfl rfl ?_
 refine au (bu Try.underlying22 rfl) rfl rfl ?_
 refine au (ak rfl) rfl rfl ?_
 refine aa ?_
 refine am ?_
 refine bk ?_
 refine dd (σ := Nat) [2, 4, 5, 12, 13, 14, 15, 16, 17, 18, 19, 20, 21] (fun k => k ≤ put.length ∧ cR put = cR (put.drop k)) (fun k => put.length - k) (fun k => [(12, .int .i64 k)]) (0) ?_ ⟨rfl, trivial⟩ (fun k hI => ?_)
 exact ⟨Nat.zero_le _, rfl⟩
 refine ap ?_
 refine ah ?_
 refine au (cX rfl rfl) rfl rfl ?_
 refine aG (t := 13) rfl (fun h2_0 => ?_) (fun h2_0 => ?_)
 have hk : k < put.length := by omega
 have hb9 := hpok.at hk
 have hdk := drop_getE hk
 refine aa ?_
 refine am ?_
 refine ap ?_
 refine aI rfl ?_
 refine aZ ?_
 refine am ?_
 refine ap ?_
 refine bk ?_
 refine ap ?_
 refine ah ?_
 refine au (co  Try.underlying22 a7 rfl rfl (cI 0 rfl) rfl (by omega)) rfl rfl ?_
 refine au (de bw bQ a7 rfl (cI 0 rfl) (by omega) rfl rfl rfl) rfl rfl ?_
 refine bo a7 rfl rfl (fun b2 => ?_)
 refine bf a7 rfl rfl rfl .z rfl rfl rfl rfl ?_
 refine aa ?_
 refine am ?_
 refine ap ?_
 refine ah ?_
 refine au (bj 0 a7 rfl rfl rfl rfl) rfl rfl ?_
 refine aS rfl ent_53 rfl (gw _ _ _ _ _ hb9.wa (by have := hb9.la; omega) (by have := hb9.lp; omega) hb9.k) (fun w hw => (ao (dH (cW 1 rfl hw) (cJ (bD (by omega)) _ (elRA _))) (ao (dH (cW 1 rfl hw) (cJ (bD (by omega)) _ (elRB _))) aM))) ?_
 refine au (aj rfl) rfl rfl ?_
 refine aa ?_
 refine am ?_
 refine ap ?_
 refine ah ?_
 refine au (ak rfl) rfl rfl ?_
 refine au (dA rfl rfl) rfl rfl ?_
 refine aG (t := 19) rfl (fun h5_1 => ?_) (fun h5_1 => ?_)
 refine aa ?_
 refine am ?_
 refine aI rfl ?_
 refine ap ?_
 have he9 : cR put = cM (put.getD k bQ).e := by rw [hI.2, hdk, cR, if_pos h5_1]
 refine ah ?_
 refine au (ak rfl) rfl rfl ?_
 refine au (aj rfl) rfl rfl ?_
 refine aa ?_
 refine am ?_
 refine aU ?_
 refine aO ?_
 refine aA ?_
 refine bG ?_
 refine aO ?_
 refine aA ?_
 refine aX (ts := [2]) rfl rfl rfl (fun w hw => ?_)
 refine ⟨(), ?_, hw.base, (hw.weak (List.nil_sublist _) (fun s hs => hs)).toNews⟩
 show Ending.returned (.int _ _) = _
 congr 2
 focus first
   | (rw [cy, if_pos (by omega), he9]
      done)
   | (rw [cy, if_neg (by omega), if_pos (by omega), hn9]
      done)
   | (rw [cy, if_neg (by omega), if_neg (by omega), if_neg (by simpa using h15_1)]
      done)
   | (rw [cy, if_neg (by omega), if_neg (by omega), if_pos (by simpa using h15_1)]
      done)
   | (trace_state; fail)
 refine aa ?_
 refine am ?_
 refine aK rfl ?_
 refine aZ ?_
 refine bV ?_
 refine am ?_
 refine ah ?_
 refine au (cr rfl rfl (by omega) (by omega)) rfl rfl ?_
 refine au (ak rfl) rfl rfl ?_
 refine aa ?_
 refine cn (k + 1) ?_ ?_ ⟨rfl, trivial⟩ (by repeat (first | exact trivial | refine ⟨rfl, ?_⟩)) (aJ 1)
 exact ⟨by omega, by rw [hI.2, hdk, cR, if_neg h5_1]⟩
 omega
 refine aa ?_
 refine am ?_
 refine ap ?_
 refine aK rfl ?_
 refine cB ?_
 refine bl ?_
 refine bq ?_
 refine bA ?_
 refine am ?_
 refine ap ?_
 refine ap ?_
 refine ah ?_
 refine au (aR fa_27_4 rfl) rfl rfl ?_
 refine au (aN 0 ty_25 rfl rfl rfl) rfl rfl ?_
 refine au (bu Try.underlying25 rfl) rfl rfl ?_
 refine au (ak rfl) rfl rfl ?_
 refine aa ?_
 refine am ?_
 refine bk ?_
 have he0 : cR put = 0 := by rw [hI.2, List.drop_of_length_le (by omega)]; rfl
 refine dd (σ := Nat) [2, 7, 8, 25, 26, 27, 28, 29, 30, 31, 32, 33, 34] (fun j => j ≤ drop.length ∧ dP drop = dP (drop.drop j)) (fun j => drop.length - j) (fun j => [(25, .int .i64 j)]) (0) ?_ ⟨rfl, trivial⟩ (fun j hI => ?_)
 exact ⟨Nat.zero_le _, rfl⟩
 refine ap ?_
 refine ah ?_
 refine au (cX rfl rfl) rfl rfl ?_
 refine aG (t := 26) rfl (fun h9_0 => ?_) (fun h9_0 => ?_)
 have hj : j < drop.length := by omega
 have hhb := hdb _ (bD (d := ([] : aW)) hj)
 have hdj := b4 drop ([] : aW) j hj
 refine aa ?_
 refine am ?_
 refine ap ?_
 refine aI rfl ?_
 refine aZ ?_
 refine am ?_
 refine ap ?_
 refine bk ?_
 refine ap ?_
 refine ah ?_
 refine au (co  Try.underlying25 bN rfl rfl (cI 2 rfl) rfl (by omega)) rfl rfl ?_
 refine au (cP bm ([] : aW) bN rfl (cI 2 rfl) (by omega) rfl rfl) rfl rfl ?_
 refine au (aj rfl) rfl rfl ?_
 refine aa ?_
 refine am ?_
 refine ap ?_
 refine ah ?_
 refine au (ak rfl) rfl rfl ?_
 refine bL rfl ent_56 (dF _) rfl ?_
 refine au (aj rfl) rfl rfl ?_
 refine aa ?_
 refine am ?_
 refine ap ?_
 refine ah ?_
 refine au (ak rfl) rfl rfl ?_
 refine au (dA rfl rfl) rfl rfl ?_
 refine aG (t := 32) rfl (fun h12_1 => ?_) (fun h12_1 => ?_)
 refine aa ?_
 refine am ?_
 refine aI rfl ?_
 refine ap ?_
 have hn9 : dP drop = bi (drop.getD j []) := by rw [hI.2, hdj, dP, if_pos h12_1]
 refine ah ?_
 refine au (ak rfl) rfl rfl ?_
 refine au (aj rfl) rfl rfl ?_
 refine aa ?_
 refine am ?_
 refine aU ?_
 refine aO ?_
 refine aA ?_
 refine bG ?_
 refine aO ?_
 refine aA ?_
 refine aX (ts := [2]) rfl rfl rfl (fun w hw => ?_)
 refine ⟨(), ?_, hw.base, (hw.weak (List.nil_sublist _) (fun s hs => hs)).toNews⟩
 show Ending.returned (.int _ _) = _
 congr 2
 focus first
   | (rw [cy, if_pos (by omega), he9]
      done)
   | (rw [cy, if_neg (by omega), if_pos (by omega), hn9]
      done)
   | (rw [cy, if_neg (by omega), if_neg (by omega), if_neg (by simpa using h15_1)]
      done)
   | (rw [cy, if_neg (by omega), if_neg (by omega), if_pos (by simpa using h15_1)]
      done)
   | (trace_state; fail)
 refine aa ?_
 refine am ?_
 refine aK rfl ?_
 refine aZ ?_
 refine bV ?_
 refine am ?_
 refine ah ?_
 refine au (cr rfl rfl (by omega) (by omega)) rfl rfl ?_
 refine au (ak rfl) rfl rfl ?_
 refine aa ?_
 refine cn (j + 1) ?_ ?_ ⟨rfl, trivial⟩ (by repeat (first | exact trivial | refine ⟨rfl, ?_⟩)) aD
 exact ⟨by omega, by rw [hI.2, hdj, dP, if_neg h12_1]⟩
 omega
 refine aa ?_
 refine am ?_
 refine ap ?_
 refine aK rfl ?_
 refine cB ?_
 refine bl ?_
 refine bq ?_
 refine bA ?_
 refine am ?_
 refine ap ?_
 refine ap ?_
 have hn0 : dP drop = 0 := by rw [hI.2, List.drop_of_length_le (by omega)]; rfl
 refine ah ?_
 refine au (bj 0 ty_27 rfl rfl rfl rfl) rfl rfl ?_
 refine aS rfl ent_79 rfl (c_hosts17 full bs ver put P pc drop D dc hpl hdl hpb hdb) (fun w hw => (ao (cW 0 rfl hw) (ao (cW 2 rfl hw) aM))) ?_
 refine b6 (t := 36) rfl (fun h15_1 => ?_) (fun h15_1 => ?_)
 refine au (cC rfl) rfl rfl ?_
 refine aa ?_
 refine am ?_
 refine aK rfl ?_
 refine aZ ?_
 refine am ?_
 refine ap ?_
 refine ah ?_
 refine au (aj rfl) rfl rfl ?_
 refine aa ?_
 refine am ?_
 refine aU ?_
 refine aX (ts := [2]) rfl rfl rfl (fun w hw => ?_)
 refine ⟨(), ?_, hw.base, (hw.weak (List.nil_sublist _) (fun s hs => hs)).toNews⟩
 show Ending.returned (.int _ _) = _
 congr 2
 focus first
   | (rw [cy, if_pos (by omega), he9]
      done)
   | (rw [cy, if_neg (by omega), if_pos (by omega), hn9]
      done)
   | (rw [cy, if_neg (by omega), if_neg (by omega), if_neg (by simpa using h15_1)]
      done)
   | (rw [cy, if_neg (by omega), if_neg (by omega), if_pos (by simpa using h15_1)]
      done)
   | (trace_state; fail)
 refine au (cC rfl) rfl rfl ?_
 refine aa ?_
 refine am ?_
 refine aI rfl ?_
 refine ap ?_
 refine ah ?_
 refine au (aj rfl) rfl rfl ?_
 refine aa ?_
 refine am ?_
 refine aU ?_
 refine aA ?_
 refine aX (ts := [2]) rfl rfl rfl (fun w hw => ?_)
 refine ⟨(), ?_, hw.base, (hw.weak (List.nil_sublist _) (fun s hs => hs)).toNews⟩
 show Ending.returned (.int _ _) = _
 congr 2
 focus first
   | (rw [cy, if_pos (by omega), he9]
      done)
   | (rw [cy, if_neg (by omega), if_pos (by omega), hn9]
      done)
   | (rw [cy, if_neg (by omega), if_neg (by omega), if_neg (by simpa using h15_1)]
      done)
   | (rw [cy, if_neg (by omega), if_neg (by omega), if_pos (by simpa using h15_1)]
      done)
   | (trace_state; fail)

theorem c_tApply1 (x y : Le) (hx : x.e.host.length ≤ 1000000000) (hy : y.e.host.length ≤ 1000000000) : d4 Try.prog 46 #[.agg (dT x).toArray, .agg (dT y).toArray] (.int .i64 (bP x.e.host y.e.host)) := by
 intro w0
 refine bR (ok0 := no) (S := []) (args := [.agg (dT x).toArray, .agg (dT y).toArray]) 10 Try.func46 rfl rfl rfl (by simp) (by simp) ?_
 refine ap ?_
 refine ah ?_
 refine da rfl rfl rfl (fun b1 => ?_)
 refine da rfl rfl rfl (fun b2 => ?_)
 refine au (aj rfl) rfl rfl ?_
 refine aa ?_
 refine am ?_
 refine ap ?_
 refine ah ?_
 refine au (aR db rfl) rfl rfl ?_
 refine au (aN 1 bN rfl rfl rfl) rfl rfl ?_
 refine au (aR db rfl) rfl rfl ?_
 refine au (aN 0 bN rfl rfl rfl) rfl rfl ?_
 refine bL rfl ent_47 (d0 x.e.host y.e.host (by omega) (by omega)) rfl ?_
 refine au (aj rfl) rfl rfl ?_
 refine aa ?_
 refine am ?_
 refine aU ?_
 refine aX (ts := [4]) rfl rfl rfl (fun w hw => ?_)
 exact ⟨rfl, hw.base⟩

def sortEn_ren : Go.Shelf.Ren := ⟨fun | 6 => 45 | 15 => 83 | 14 => 82 | 28 => 130 | 29 => 131 | 20 => 122 | 21 => 123 | 22 => 124 | 23 => 125 | 24 => 126 | 25 => 127 | 26 => 128 | 27 => 129 | 46 => 153 | 47 => 154 | 48 => 155 | 49 => 156 | 50 => 157 | 57 => 172 | n => n, fun | 22 => 22 | 24 => 44 | 25 => 95 | 3 => 3 | 39 => 147 | 0 => 0 | 53 => 42 | 55 => 60 | 4 => 4 | 46 => 183 | 45 => 182 | 50 => 90 | 5 => 5 | 9 => 9 | 66 => 214 | 70 => 218 | 76 => 231 | 77 => 232 | n => n, fun | n => n⟩
theorem sortEn : Go.Proofs.SlLaysF0.n6 Try.prog sortEn_ren := {
  mixed := by kernel_rfl,
  f6 := ⟨Try.f45.name, by decide, Try.func45.trans (congrArg some (by kernel_rfl))⟩,
  f14 := ⟨Try.f82.name, by decide, Try.func82.trans (congrArg some (by kernel_rfl))⟩,
  f15 := Try.func83.trans (congrArg some (by kernel_rfl)),
  f20 := ⟨Try.f122.name, by decide, Try.func122.trans (congrArg some (by kernel_rfl))⟩,
  f21 := ⟨Try.f123.name, by decide, Try.func123.trans (congrArg some (by kernel_rfl))⟩,
  f22 := ⟨Try.f124.name, by decide, Try.func124.trans (congrArg some (by kernel_rfl))⟩,
  f23 := ⟨Try.f125.name, by decide, Try.func125.trans (congrArg some (by kernel_rfl))⟩,
  f24 := ⟨Try.f126.name, by decide, Try.func126.trans (congrArg some (by kernel_rfl))⟩,
  f25 := ⟨Try.f127.name, by decide, Try.func127.trans (congrArg some (by kernel_rfl))⟩,
  f26 := ⟨Try.f128.name, by decide, Try.func128.trans (congrArg some (by kernel_rfl))⟩,
  f27 := ⟨Try.f129.name, by decide, Try.func129.trans (congrArg some (by kernel_rfl))⟩,
  f28 := Try.func130.trans (congrArg some (by kernel_rfl)),
  f29 := Try.func131.trans (congrArg some (by kernel_rfl)),
  f46 := ⟨Try.f153.name, by decide, Try.func153.trans (congrArg some (by kernel_rfl))⟩,
  f47 := Try.func154.trans (congrArg some (by kernel_rfl)),
  f48 := Try.func155.trans (congrArg some (by kernel_rfl)),
  f49 := ⟨Try.f156.name, by decide, Try.func156.trans (congrArg some (by kernel_rfl))⟩,
  f50 := ⟨Try.f157.name, by decide, Try.func157.trans (congrArg some (by kernel_rfl))⟩,
  f57 := ⟨Try.f172.name, by decide, Try.func172.trans (congrArg some (by kernel_rfl))⟩,
  t0 := Try.underlying0,
  a0 := Try.isAgg0,
  z0 := Try.sizeOf0,
  v0 := Try.zeroValue0,
  t3 := Try.underlying3,
  a3 := Try.isAgg3,
  z3 := Try.sizeOf3,
  v3 := Try.zeroValue3,
  t4 := Try.underlying4,
  a4 := Try.isAgg4,
  z4 := Try.sizeOf4,
  v4 := Try.zeroValue4,
  t5 := Try.underlying5,
  a5 := Try.isAgg5,
  z5 := Try.sizeOf5,
  v5 := Try.zeroValue5,
  t9 := Try.underlying9,
  a9 := Try.isAgg9,
  z9 := Try.sizeOf9,
  v9 := Try.zeroValue9,
  t22 := Try.underlying22,
  a22 := Try.isAgg22,
  z22 := Try.sizeOf22,
  v22 := Try.zeroValue22,
  t25 := Try.underlying95,
  a25 := Try.isAgg95,
  z25 := Try.sizeOf95,
  v25 := Try.zeroValue95,
  t39 := Try.underlying147,
  a39 := Try.isAgg147,
  z39 := Try.sizeOf147,
  v39 := Try.zeroValue147,
  t45 := Try.underlying182,
  a45 := Try.isAgg182,
  z45 := Try.sizeOf182,
  v45 := Try.zeroValue182,
  t46 := Try.underlying183,
  a46 := Try.isAgg183,
  z46 := Try.sizeOf183,
  v46 := Try.zeroValue183,
  t50 := Try.underlying90,
  a50 := Try.isAgg90,
  z50 := Try.sizeOf90,
  v50 := Try.zeroValue90,
  t53 := Try.underlying42,
  a53 := Try.isAgg42,
  z53 := Try.sizeOf42,
  v53 := Try.zeroValue42,
  t55 := Try.underlying60,
  a55 := Try.isAgg60,
  z55 := Try.sizeOf60,
  v55 := Try.zeroValue60,
  t66 := Try.underlying214,
  a66 := Try.isAgg214,
  z66 := Try.sizeOf214,
  v66 := Try.zeroValue214,
  t70 := Try.underlying218,
  a70 := Try.isAgg218,
  z70 := Try.sizeOf218,
  v70 := Try.zeroValue218,
  t76 := Try.underlying231,
  a76 := Try.isAgg231,
  z76 := Try.sizeOf231,
  v76 := Try.zeroValue231,
  t77 := Try.underlying232,
  a77 := Try.isAgg232,
  z77 := Try.sizeOf232,
  v77 := Try.zeroValue232 }

theorem cmpLs_congr {s s' t : List aW} (h : s.map cG = s'.map cG) : c7 s t = c7 s' t := by rw [fj, h, ← fj]
theorem cmpN_eq0 {a b : aW} (h : bP a b = 0) (c : aW) : bP a c = bP b c := cmpLs_congr (cmpLs_zero.1 h)
def hstP (x : Le) : Prop := x.e.host.length ≤ 1000000000
instance : Inhabited {x : Le // hstP x} := ⟨⟨bQ, by show ([] : aW).length ≤ _; decide⟩⟩
theorem swo_en : Go.Sort.SWO (α := {x : Le // hstP x}) (Go.Proofs.ltOf fun x y : {x : Le // hstP x} => bP x.1.e.host y.1.e.host) where
  irrefl x := by simp only [ltOf, decide_eq_false_iff_not, cmpN_self]; omega
  trans x y z h1 h2 := by simp only [ltOf, decide_eq_true_eq] at *; exact c9 h1 h2
  ntrans x y z h1 h2 := by
    simp only [ltOf, decide_eq_false_iff_not] at *
    intro h
    by_cases h0 : bP x.1.e.host y.1.e.host = 0
    · rw [cmpN_eq0 h0] at h; exact h2 h
    · have h3 := dg x.1.e.host y.1.e.host
      exact h2 (c9 (show bP y.1.e.host x.1.e.host < 0 by omega) h)
theorem c_Sort_en (A : Option Addr) (c : Nat) (xs : List Le) (hl : xs.length ≤ 1000000) (hh : ∀ x ∈ xs, x.e.host.length ≤ 1000000000) : UC Try.prog 45 #[.slice A xs.length c, .func (.func 46) #[] #[]] [] (Ch.ls A c 44 7 dT xs) (α := {ys : List Le // ys.Perm xs ∧ ys.Pairwise fun a b => ¬ bP b.e.host a.e.host < 0}) (fun _ => .tuple #[]) (fun o => Ch.ls A c 44 7 dT o.1) :=
  uc_sort (p := hstP) sortEn 7 Try.isAgg44 Try.sizeOf44 bw (fun a b : Le => bP a.e.host b.e.host) swo_en 46 #[] (enters_of Try.func46 (by kernel_rfl) rfl) (fun x y h1 h2 => by rw [Array.append_empty]; exact c_tApply1 x y h1 h2) 44 A c xs hh (by omega)

end Go.Proofs.Ytnpdgmoeoidppaa
