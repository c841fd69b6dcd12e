import Derived.Test.YtnpdgmoeoidppaaGreatUaQx
/- tables: parts of pushes, cuts, places, sorts -/
namespace Go.Proofs.YtnpdgmoeoidppaaGreat
open Go.RowKit Go.Shelf
set_option linter.unusedVariables false
set_option linter.unusedSimpArgs false

theorem bu_226_0 (x0 : a6) : Tryz.prog.built 226 [(0, .string (ba x0))] = some [.string (ba x0)].toArray := by kernel_rfl
theorem ent_186 : Enters Tryz.prog 186 := enters_of Tryz.func186 (by kernel_rfl) rfl
theorem ent_187 : Enters Tryz.prog 187 := enters_of Tryz.func187 (by kernel_rfl) rfl
theorem ent_188 : Enters Tryz.prog 188 := enters_of Tryz.func188 (by kernel_rfl) rfl
theorem fa_226_0 : FA Tryz.prog 226 0 0 := fun b o w => by kernel_rfl
theorem bL : TyI Tryz.prog 103 true 5 72 (.agg #[.bool false, .int .i64 0, .int .i64 0, .slice none 0 0, .slice none 0 0]) := TyI.mk' (by kernel_rfl) (fun _ => by kernel_rfl)
theorem ty_226 : TyI Tryz.prog 226 true 1 16 (.agg #[.string ⟨#[]⟩]) := TyI.mk' (by kernel_rfl) (fun _ => by kernel_rfl)

theorem c_Clone_en (l : List Le) (A : Option Addr) (c : Nat) (hl : l.length ≤ 1000000) : RC Tryz.prog 126 #[.slice A l.length c] [Ch.rd A 7 dF l] (α := Option Addr × Nat) (fun p => .slice p.1 l.length p.2) (fun p => [Ch.ls p.1 p.2 34 7 dF l]) := by
 refine bK (args := [.slice A l.length c]) 8 Tryz.func126 rfl rfl rfl (fun w0 => ?_)
 refine ap ?_
 refine ae ?_
 refine aq (ai rfl) rfl rfl ?_
 refine aa ?_
 refine aj ?_
 refine ap ?_
 refine ap ?_
 refine ae ?_
 refine aq (am rfl) rfl rfl ?_
 refine aq (y_eqsn Tryz.underlying22 rfl rfl) rfl rfl ?_
 refine bN (t := 4) rfl (fun h1_1 => ?_) (fun h1_1 => ?_)
 refine aa ?_
 refine aj ?_
 refine aA rfl ?_
 refine ap ?_
 refine ae ?_
 refine aq (ai rfl) rfl rfl ?_
 refine aa ?_
 refine aj ?_
 refine aN ?_
 refine ax ?_
 refine aR (ts := [2]) rfl rfl rfl (fun w hw => ?_)
 have hr : RsP A l.length 7 _ w := hw.sh _ List.mem_cons_self
 have h0 : l = [] := List.length_eq_zero_iff.1 (rs_none hr h1_1)
 subst h0
 exact ⟨(none, 0), rfl, hw.base, (hw.nilsl 34 7).toNews⟩
 refine aa ?_
 refine aj ?_
 refine aD rfl ?_
 refine aQ ?_
 refine aj ?_
 refine ap ?_
 refine ae ?_
 refine bY (vs := []) ([] : List (Le)) bp Tryz.underlying22 aU rfl rfl rfl rfl rfl rfl (fun As1 => ?_)
 refine aq (am rfl) rfl rfl ?_
 refine cv (enc := dF) (sz := 7) l Tryz.underlying22 aU rfl rfl rfl (fun A c => .z) (je 0 Tryz.underlying22 rfl) (by simp only [List.length_cons, List.length_nil, Nat.zero_add]; omega) (by simp only [List.length_cons, List.length_nil, Nat.zero_add]; omega) rfl (fun A1 c1 => ?_)
 refine aq (ai rfl) rfl rfl ?_
 refine aa ?_
 refine aj ?_
 refine aN ?_
 refine aR (ts := [2]) rfl rfl rfl (fun w hw => ?_)
 exact ⟨(A1, c1), rfl, hw.base, hw.toNews⟩

theorem eraseIdx_cut {α : Type} {xs : List α} {i : Nat} (hi : i < xs.length) : (xs.take i ++ xs.drop (i + 1) ++ xs.drop (xs.length - (i + 1 - i))).take (xs.length - (i + 1 - i)) = xs.eraseIdx i := by
  rw [List.eraseIdx_eq_take_drop_succ, show i + 1 - i = 1 by omega, List.take_append_of_le_length (by simp; omega), List.take_of_length_le (by simp; omega)]
theorem eraseIdx_len {α : Type} {xs : List α} {i : Nat} (hi : i < xs.length) : (xs.eraseIdx i).length = xs.length - (i + 1 - i) := by
  rw [List.length_eraseIdx, if_pos hi]; omega

set_option maxRecDepth 100000 in
theorem c_Delete (xs : List Le) (A : Option Addr) (c i : Nat) (hi : i < xs.length) (hl : xs.length ≤ 1000000) : UC Tryz.prog 128 #[.slice A xs.length c, .int .i64 i, .int .i64 ((i : Int) + 1)] [] (Ch.ls A c 34 7 dF xs) (α := Unit) (fun _ => .slice A (xs.eraseIdx i).length c) (fun _ => Ch.ls A c 34 7 dF (xs.eraseIdx i)) := by
 refine il (args := [.slice A xs.length c, .int .i64 i, .int .i64 ((i : Int) + 1)]) 33 Tryz.func128 rfl rfl rfl (fun w0 => ?_)
 refine ap ?_
 refine ae ?_
 refine aq (ai rfl) rfl rfl ?_
 refine aa ?_
 refine aj ?_
 refine ap ?_
 refine ae ?_
 refine aq (am rfl) rfl rfl ?_
 refine aq (am rfl) rfl rfl ?_
 refine aq (am rfl) rfl rfl ?_
 refine aq (am rfl) rfl rfl ?_
 refine aq (bg Tryz.underlying22 rfl) rfl rfl ?_
 refine aq (y_slice3 (m := i) (k := i + 1) (q := xs.length) Tryz.underlying22 aU rfl rfl rfl rfl rfl (by omega) rfl (by omega) (by omega) (cap_L 0 rfl)) rfl rfl ?_
 refine aa ?_
 refine aj ?_
 refine ap ?_
 refine ap ?_
 refine ae ?_
 refine aq (am rfl) rfl rfl ?_
 refine aq (am rfl) rfl rfl ?_
 refine aq (cY rfl rfl) rfl rfl ?_
 refine wl_af (t := 16) rfl (by omega) ?_
 refine aa ?_
 refine aj ?_
 refine aD rfl ?_
 refine aQ ?_
 refine aj ?_
 refine ap ?_
 refine ae ?_
 refine aq (am rfl) rfl rfl ?_
 refine aq (bg Tryz.underlying22 rfl) rfl rfl ?_
 refine aq (ai rfl) rfl rfl ?_
 refine aa ?_
 refine aj ?_
 refine ap ?_
 refine e7 6 rfl mixed ?_
 refine aI (i := 0) rfl ak (am rfl) aG aG rfl (ah aw) (by kernel_rfl) rfl ?_
 refine aI (i := 1) rfl ak (am rfl) aG aG rfl (ah aw) (by kernel_rfl) rfl ?_
 refine aI (i := 2) rfl ak (y_takes (m := i) Tryz.underlying22 aU rfl rfl (by omega) (by omega) (cap_L 0 rfl)) aG aG rfl (ah aw) (by kernel_rfl) rfl ?_
 refine aI (i := 3) rfl ak (am rfl) aG aG rfl (ah aw) (by kernel_rfl) rfl ?_
 refine aI (i := 4) rfl ak (am rfl) aG aG rfl (ah aw) (by kernel_rfl) rfl ?_
 refine aI (i := 5) rfl ak (iv (m := i + 1) Tryz.underlying22 aU rfl rfl (by omega) (by omega)) aG aG rfl (ah aw) (by kernel_rfl) rfl ?_
 refine bl (i := 6) rfl rfl rfl (fun _ _ _ => aM (by kernel_rfl)) (by kernel_rfl) rfl ?_
 refine o_cut (m := i) (j := i + 1) bp Tryz.underlying22 Tryz.underlying22 aU rfl rfl rfl (by omega) (by omega) .z rfl ?_
 refine aa ?_
 refine cW rfl ?_
 refine bl (i := 7) rfl rfl rfl (fun _ _ _ => aM (by kernel_rfl)) (by kernel_rfl) rfl ?_
 refine aq (ai rfl) rfl rfl ?_
 refine aa ?_
 refine cW rfl ?_
 refine cw (by kernel_rfl) ?_
 refine aj ?_
 refine ap ?_
 refine ae ?_
 refine aq (am rfl) rfl rfl ?_
 refine aq (am rfl) rfl rfl ?_
 refine aq (bg Tryz.underlying22 rfl) rfl rfl ?_
 refine aq (am rfl) rfl rfl ?_
 refine aq (y_slice2 (m := xs.length - (i + 1 - i)) (k := xs.length) Tryz.underlying22 aU rfl rfl rfl rfl rfl (by omega) (fun w hw => by have h9 := cap_L 0 rfl w hw; simp at h9; omega)) rfl rfl ?_
 refine o_clr (m := xs.length - (i + 1 - i)) bp Tryz.underlying22 aU rfl rfl rfl (by simp; omega) (by simp; omega) .z ?_
 refine aa ?_
 refine aj ?_
 refine ap ?_
 refine ae ?_
 refine aq (am rfl) rfl rfl ?_
 refine aq (ai rfl) rfl rfl ?_
 refine aa ?_
 refine aj ?_
 refine aN ?_
 refine aR (ts := [6]) rfl rfl rfl (fun w hw => ?_)
 have hE := eraseIdx_cut hi
 have hL := eraseIdx_len hi
 rw [hE] at hw
 obtain ⟨h1, h2, h3⟩ := hw.uc
 exact ⟨(), by rw [hL]; rfl, h1, h2, h3⟩

theorem c_tcompare (h : a6) (y : Le) (n : Int) (hh : h.length ≤ 1000000000) (hy : y.e.host.length ≤ 1000000000) : eC Tryz.prog 188 #[.agg #[.string (ba h)], .agg (dF y).toArray, .int .i64 n] (.int .i64 (bR y.e.host h)) := by
 intro w0
 refine bT (ok0 := no) (S := []) (args := [.agg #[.string (ba h)], .agg (dF y).toArray, .int .i64 n]) 12 Tryz.func188 rfl rfl rfl (by simp) (by simp) ?_
 refine ap ?_
 refine ae ?_
 refine cL rfl rfl rfl (fun b1 => ?_)
 refine cL rfl rfl rfl (fun b2 => ?_)
 refine aq (ai rfl) rfl rfl ?_
 refine aa ?_
 refine aj ?_
 refine ap ?_
 refine ae ?_
 refine aq (aB cM rfl) rfl rfl ?_
 refine aq (aC 0 bE rfl rfl rfl) rfl rfl ?_
 refine aq (aB fa_226_0 rfl) rfl rfl ?_
 refine aq (aC 1 bE rfl rfl rfl) rfl rfl ?_
 refine bD rfl jV (fv y.e.host h (by omega) (by omega)) rfl ?_
 refine aq (ai rfl) rfl rfl ?_
 refine aa ?_
 refine aj ?_
 refine aN ?_
 refine aR (ts := [6]) rfl rfl rfl (fun w hw => ?_)
 exact ⟨rfl, hw.base⟩

/-- Where a host stands, or would stand. -/
def FdOk (l : List Le) (h : a6) (k : Nat) : Prop := k ≤ l.length ∧ (∀ q, q < k → bR (l.getD q bm).e.host h < 0) ∧ ∀ q, k ≤ q → q < l.length → ¬ bR (l.getD q bm).e.host h < 0
theorem tbe_at {l : List Le} (h : TbE (l.map (·.e))) {i j : Nat} (hij : i < j) (hj : j < l.length) : bR (l.getD i bm).e.host (l.getD j bm).e.host < 0 := by
  have := List.pairwise_iff_getElem.1 h.up i j (by rw [List.length_map]; omega) (by simpa using hj) hij
  rw [List.getElem_map, List.getElem_map] at this
  rw [List.getD_eq_getElem?_getD, List.getD_eq_getElem?_getD, List.getElem?_eq_getElem hj, List.getElem?_eq_getElem (show i < l.length by omega)]; exact this
theorem bs_lo {l : List Le} (h : TbE (l.map (·.e))) {x : a6} {k : Nat} (hk : k < l.length) (hc : bR (l.getD k bm).e.host x < 0) : ∀ q, q < k + 1 → bR (l.getD q bm).e.host x < 0 := fun q hq => by
  by_cases e : q = k
  · rw [e]; exact hc
  · exact ef (tbe_at h (by omega) hk) hc
theorem bs_hi {l : List Le} (h : TbE (l.map (·.e))) {x : a6} {k : Nat} (hc : ¬ bR (l.getD k bm).e.host x < 0) : ∀ q, k ≤ q → q < l.length → ¬ bR (l.getD q bm).e.host x < 0 := fun q hq hl hn => by
  by_cases e : q = k
  · rw [e] at hn; exact hc hn
  · exact hc (ef (tbe_at h (by omega) hl) hn)
def fdB (l : List Le) (h : a6) (k : Nat) : Bool := decide (k < l.length) && decide (bR (l.getD k bm).e.host h = 0)
theorem fd_yes {l : List Le} (h : TbE (l.map (·.e))) {n : a6} (hn : bd n = 0) {k : Nat} (hb : fdB l (a7 n) k = true) : k < l.length ∧ b8 (l.map (·.e)) (a7 n) = some (l.getD k bm).e ∧ l.eraseIdx k = l.filter fun y => decide (a7 y.e.host ≠ a7 n) := by
  simp only [fdB, Bool.and_eq_true, decide_eq_true_eq] at hb
  obtain ⟨hk, hc⟩ := hb
  have hm := aZ (d := bm) hk
  have hme : (l.getD k bm).e ∈ l.map (·.e) := List.mem_map.2 ⟨_, hm, rfl⟩
  have hf : a7 (l.getD k bm).e.host = a7 n := by
    have := (ea (h.ck _ hme) (fP hn)).1 hc
    rw [jj hn] at this; exact this
  refine ⟨hk, by rw [← hf]; exact iV h.hosts hme, ?_⟩
  have e9 : l.getD k bm = l[k] := by rw [List.getD_eq_getElem?_getD, List.getElem?_eq_getElem hk]; rfl
  have h1 : l = l.take k ++ l[k] :: l.drop (k + 1) := by rw [List.getElem_cons_drop, List.take_append_drop]
  have hne : ∀ y ∈ l.take k ++ l.drop (k + 1), a7 y.e.host ≠ a7 n := fun y hy q => by
    have h2 : ∃ j, j < l.length ∧ j ≠ k ∧ l.getD j bm = y := by
      rcases List.mem_append.1 hy with hy | hy
      · obtain ⟨j, hj, rfl⟩ := List.mem_iff_getElem.1 hy
        have hj2 : j < k := by simp at hj; omega
        exact ⟨j, by omega, by omega, by rw [List.getElem_take, List.getD_eq_getElem?_getD, List.getElem?_eq_getElem (by omega)]; rfl⟩
      · obtain ⟨j, hj, rfl⟩ := List.mem_iff_getElem.1 hy
        have hj2 : k + 1 + j < l.length := by simp at hj; omega
        exact ⟨k + 1 + j, hj2, by omega, by rw [List.getElem_drop, List.getD_eq_getElem?_getD, List.getElem?_eq_getElem hj2]; rfl⟩
    obtain ⟨j, hj, hjk, rfl⟩ := h2
    have hje : (l.getD j bm).e ∈ l.map (·.e) := List.mem_map.2 ⟨_, aZ hj, rfl⟩
    have h3 := (ea (h.ck _ hje) (h.ck _ hme)).2 (q.trans hf.symm)
    have h4 := dM (l.getD j bm).e.host (l.getD k bm).e.host
    rcases Nat.lt_or_gt_of_ne hjk with h5 | h5
    · have := tbe_at h h5 hk; omega
    · have := tbe_at h h5 hj; omega
  rw [List.eraseIdx_eq_take_drop_succ]
  conv => rhs; rw [h1]
  rw [List.filter_append, List.filter_cons, if_neg (fun (q : decide (a7 l[k].e.host ≠ a7 n) = true) => of_decide_eq_true q (by rw [← e9]; exact hf))]
  rw [List.filter_eq_self.2 (fun y hy => decide_eq_true (hne y (List.mem_append_left _ hy))), List.filter_eq_self.2 (fun y hy => decide_eq_true (hne y (List.mem_append_right _ hy)))]
theorem fd_no {l : List Le} (h : TbE (l.map (·.e))) {n : a6} (hn : bd n = 0) {k : Nat} (hk : FdOk l (a7 n) k) (hb : fdB l (a7 n) k = false) : b8 (l.map (·.e)) (a7 n) = none := look_none.2 fun e he q => by
  obtain ⟨y, hy, rfl⟩ := List.mem_map.1 he
  obtain ⟨j, hj, rfl⟩ := List.mem_iff_getElem.1 hy
  have e9 : l.getD j bm = l[j] := by rw [List.getD_eq_getElem?_getD, List.getElem?_eq_getElem hj]; rfl
  have hc : bR (l.getD j bm).e.host (a7 n) = 0 := by
    rw [e9]; exact (ea (h.ck _ he) (fP hn)).2 (by rw [jj hn]; exact q)
  have hkj : ¬ j < k := fun h9 => by have := hk.2.1 j h9; omega
  by_cases e : j = k
  · subst e
    rw [fdB, decide_eq_true hj, decide_eq_true hc] at hb; cases hb
  · have h1 := tbe_at h (show k < j by omega) hj
    have h2 := hk.2.2 k (Nat.le_refl _) (by omega)
    have hke : (l.getD k bm).e ∈ l.map (·.e) := List.mem_map.2 ⟨_, aZ (by omega), rfl⟩
    have h3 := gh (fP hn) (h.ck _ he) (by rw [jj hn]; exact q.symm) (l.getD k bm).e.host
    have h4 := dM (a7 n) (l.getD k bm).e.host
    have h5 := dM (l.getD j bm).e.host (l.getD k bm).e.host
    rw [e9] at h1 h5
    omega

theorem c_BSearch (l : List Le) (A : Option Addr) (c : Nat) (h : a6) (ht : TbE (l.map (·.e))) (hl : l.length ≤ 1000000) (hh : h.length ≤ 1000000000) (hhl : ∀ x ∈ l, x.e.host.length ≤ 1000000000) : RC Tryz.prog 187 #[.slice A l.length c, .int .i64 0, .func (.func 188) #[.agg #[.string (ba h)]] #[]] [Ch.rd A 7 dF l] (α := {k : Nat // FdOk l h k}) (fun o => .tuple #[.int .i64 o.1, .bool (fdB l h o.1)]) (fun o => []) := by
 refine bK (args := [.slice A l.length c, .int .i64 0, .func (.func 188) #[.agg #[.string (ba h)]] #[]]) 49 Tryz.func187 rfl rfl rfl (fun w0 => ?_)
 refine ap ?_
 refine ae ?_
 refine aq (ai rfl) rfl rfl ?_
 refine aq (ai rfl) rfl rfl ?_
 refine aa ?_
 refine aj ?_
 refine ap ?_
 refine ae ?_
 refine aq (am rfl) rfl rfl ?_
 refine aq (bg Tryz.underlying22 rfl) rfl rfl ?_
 refine aq (ai rfl) rfl rfl ?_
 refine aa ?_
 refine aj ?_
 refine ap ?_
 refine ae ?_
 refine aq (am rfl) rfl rfl ?_
 refine aq (ai rfl) rfl rfl ?_
 refine aq (ai rfl) rfl rfl ?_
 refine aa ?_
 refine aj ?_
 refine ap ?_
 refine aS ?_
 refine cC (σ := Nat × Nat) [9, 10, 11, 15, 16, 17, 18, 19, 20, 21, 22, 23, 24, 25, 26, 27, 28, 29, 30, 31, 32, 33, 34] (fun q => q.1 ≤ q.2 ∧ q.2 ≤ l.length ∧ (∀ p, p < q.1 → bR (l.getD p bm).e.host h < 0) ∧ ∀ p, q.2 ≤ p → p < l.length → ¬ bR (l.getD p bm).e.host h < 0) (fun q => q.2 - q.1) (fun q => [(9, .int .i64 q.1), (10, .int .i64 q.2)]) ((0, l.length)) ?_ ⟨rfl, rfl, trivial⟩ (fun q hI => ?_)
 exact ⟨Nat.zero_le _, Nat.le_refl _, nofun, fun p h1 h2 => by omega⟩
 obtain ⟨i, j⟩ := q
 dsimp only at hI ⊢
 refine ap ?_
 refine ap ?_
 refine ae ?_
 refine aq (am rfl) rfl rfl ?_
 refine aq (am rfl) rfl rfl ?_
 refine aq (bW rfl rfl) rfl rfl ?_
 refine ay (t := 17) rfl (fun h3_2 => ?_) (fun h3_2 => ?_)
 have hij : i < j := by omega
 refine aa ?_
 refine aj ?_
 refine aA rfl ?_
 refine aQ ?_
 refine aj ?_
 refine aS ?_
 refine ap ?_
 refine ae ?_
 refine aq (am rfl) rfl rfl ?_
 refine aq (am rfl) rfl rfl ?_
 refine aq (br rfl rfl (by omega) (by omega)) rfl rfl ?_
 refine aq (j6 Tryz.underlying3 Tryz.underlying202 rfl (wrap_u64 (by omega) (by omega))) rfl rfl ?_
 refine aq (y_shr rfl rfl (by omega)) rfl rfl ?_
 refine eo (t := 22) (.int .u64 (((i + j) / 2 : Nat) : Int)) rfl (by congr 1; show Int.fdiv ((i : Int) + (j : Int)) 2 = _; rw [Int.fdiv_eq_ediv_of_nonneg _ (by decide)]; omega) ?_
 obtain ⟨k, hkd⟩ : ∃ k, k = (i + j) / 2 := ⟨_, rfl⟩
 rw [← hkd]
 refine aq (j6 Tryz.underlying202 Tryz.underlying3 rfl (jA (by omega) (by omega))) rfl rfl ?_
 refine aq (ai rfl) rfl rfl ?_
 refine aa ?_
 refine aj ?_
 refine ap ?_
 refine ae ?_
 refine aq (am rfl) rfl rfl ?_
 refine aq (am rfl) rfl rfl ?_
 refine aq (am rfl) rfl rfl ?_
 refine aq (bB  Tryz.underlying22 aU rfl rfl (bF 0 rfl) rfl (by omega)) rfl rfl ?_
 refine aq (b6 bp bm aU rfl (bF 0 rfl) (by omega) rfl rfl rfl) rfl rfl ?_
 refine aq (am rfl) rfl rfl ?_
 refine jT rfl rfl rfl ent_188 (c_tcompare h (l.getD k bm) 0 hh (hhl _ (aZ (by omega)))) rfl ?_
 refine aq (bW rfl rfl) rfl rfl ?_
 refine ay (t := 31) rfl (fun h5_7 => ?_) (fun h5_7 => ?_)
 refine aa ?_
 refine aj ?_
 refine aA rfl ?_
 refine ae ?_
 refine aq (am rfl) rfl rfl ?_
 refine aq (br rfl rfl (by omega) (by omega)) rfl rfl ?_
 refine aq (ai rfl) rfl rfl ?_
 refine aa ?_
 refine bj ?_
 refine bv ((k + 1, j)) ?_ ?_ ⟨rfl, rfl, trivial⟩ (by repeat (first | exact trivial | refine ⟨rfl, ?_⟩)) aG
 exact ⟨by show k + 1 ≤ j; omega, hI.2.1, bs_lo ht (by omega) h5_7, hI.2.2.2⟩
 show j - (k + 1) < j - i
 omega
 refine aa ?_
 refine aj ?_
 refine aD rfl ?_
 refine ae ?_
 refine aq (am rfl) rfl rfl ?_
 refine aq (ai rfl) rfl rfl ?_
 refine aa ?_
 refine bj ?_
 refine bv ((i, k)) ?_ ?_ ⟨rfl, rfl, trivial⟩ (by repeat (first | exact trivial | refine ⟨rfl, ?_⟩)) aG
 exact ⟨by show i ≤ k; omega, by show k ≤ _; omega, hI.2.2.1, bs_hi ht h5_7⟩
 show k - i < j - i
 omega
 refine aa ?_
 refine aj ?_
 refine aD rfl ?_
 refine bJ ?_
 refine aV ?_
 refine aX ?_
 refine a8 ?_
 refine aj ?_
 refine ap ?_
 refine ae ?_
 refine aq (am rfl) rfl rfl ?_
 refine aq (am rfl) rfl rfl ?_
 refine aq (am rfl) rfl rfl ?_
 refine aq (bW rfl rfl) rfl rfl ?_
 refine ay (t := 38) rfl (fun h8_3 => ?_) (fun h8_3 => ?_)
 refine aq (am rfl) rfl rfl ?_
 refine au rfl rfl ?_
 refine aq (am rfl) rfl rfl ?_
 refine au rfl rfl ?_
 refine aq (am rfl) rfl rfl ?_
 refine au rfl rfl ?_
 refine aq (am rfl) rfl rfl ?_
 refine au rfl rfl ?_
 refine aq (bB  Tryz.underlying22 aU rfl rfl (bF 0 rfl) rfl (by omega)) rfl rfl ?_
 refine au rfl rfl ?_
 refine aq (b6 bp bm aU rfl (bF 0 rfl) (by omega) rfl rfl rfl) rfl rfl ?_
 refine au rfl rfl ?_
 refine aq (am rfl) rfl rfl ?_
 refine au rfl rfl ?_
 refine jT rfl rfl rfl ent_188 (c_tcompare h (l.getD i bm) 0 hh (hhl _ (aZ (by omega)))) rfl ?_
 refine au rfl rfl ?_
 refine aq (cY rfl rfl) rfl rfl ?_
 refine aq (aH rfl rfl) rfl rfl ?_
 refine aq (ai rfl) rfl rfl ?_
 refine aq (ai rfl) rfl rfl ?_
 refine aa ?_
 refine aj ?_
 refine aN ?_
 refine aR (ts := [6, 7]) rfl rfl rfl (fun w hw => ?_)
 have hF : FdOk l h i := ⟨by omega, hI.2.2.1, fun p h1 h2 => hI.2.2.2 p (by omega) h2⟩
 have hB : fdB l h i = decide (bR (l.getD i bm).e.host h = 0) := by rw [fdB, decide_eq_true (by omega)]; rfl
 exact ⟨⟨i, hF⟩, by rw [hB]; rfl, hw.base, (hw.weak (List.nil_sublist _) (fun s hs => hs)).toNews⟩
 refine aq (am rfl) rfl rfl ?_
 refine ar rfl rfl rfl rfl ?_
 refine ar rfl rfl rfl rfl ?_
 refine ar rfl rfl rfl rfl ?_
 refine ar rfl rfl rfl rfl ?_
 refine ar rfl rfl rfl rfl ?_
 refine ar rfl rfl rfl rfl ?_
 refine ar rfl rfl rfl rfl ?_
 refine ar rfl rfl rfl rfl ?_
 refine aq (aF rfl rfl) rfl rfl ?_
 refine aq (ai rfl) rfl rfl ?_
 refine aq (ai rfl) rfl rfl ?_
 refine aa ?_
 refine aj ?_
 refine aN ?_
 refine aR (ts := [6, 7]) rfl rfl rfl (fun w hw => ?_)
 have hF : FdOk l h i := ⟨by omega, hI.2.2.1, fun p h1 h2 => hI.2.2.2 p (by omega) h2⟩
 have hB : fdB l h i = false := by rw [fdB, decide_eq_false (by omega)]; rfl
 exact ⟨⟨i, hF⟩, by rw [hB]; rfl, hw.base, (hw.weak (List.nil_sublist _) (fun s hs => hs)).toNews⟩

theorem c_tfind (l : List Le) (A : Option Addr) (c : Nat) (n : a6) (ht : TbE (l.map (·.e))) (hl : l.length ≤ 1000000) (hn0 : bd n = 0) (hnl : n.length ≤ 1000000) (hhl : ∀ x ∈ l, x.e.host.length ≤ 1000000000) : RC Tryz.prog 127 #[.slice A l.length c, .string (ba n)] [Ch.rd A 7 dF l] (α := {k : Nat // FdOk l (a7 n) k}) (fun o => .tuple #[.int .i64 o.1, .bool (fdB l (a7 n) o.1)]) (fun o => []) := by
 refine bK (args := [.slice A l.length c, .string (ba n)]) 16 Tryz.func127 rfl rfl rfl (fun w0 => ?_)
 refine ap ?_
 refine ae ?_
 refine aq (ai rfl) rfl rfl ?_
 refine aq (ai rfl) rfl rfl ?_
 refine aa ?_
 refine aj ?_
 refine ap ?_
 refine ae ?_
 refine aq (am rfl) rfl rfl ?_
 refine bD rfl ent_73 (gx _ (by omega)) rfl ?_
 refine aq (bP rfl (bu_226_0 _)) rfl rfl ?_
 refine bH ty_226 rfl rfl (fun b1 => ?_)
 refine aW ty_226 rfl rfl rfl .z rfl rfl rfl rfl ?_
 refine aa ?_
 refine aj ?_
 refine ap ?_
 refine ae ?_
 refine aq (am rfl) rfl rfl ?_
 refine aq (bu 0 ty_226 rfl rfl rfl rfl) rfl rfl ?_
 refine aq (jn rfl rfl) rfl rfl ?_
 refine eT rfl ent_187 rfl (c_BSearch l A c (a7 n) ht hl (by have := foldN_len hn0; omega) hhl) (fun w hw => (az (bo 0 rfl hw) aY)) (fun ⟨k, hk⟩ => ?_)
 refine aq (bn rfl rfl) rfl rfl ?_
 refine aq (bn rfl rfl) rfl rfl ?_
 refine aq (ai rfl) rfl rfl ?_
 refine aq (ai rfl) rfl rfl ?_
 refine aa ?_
 refine aj ?_
 refine aN ?_
 refine aR (ts := [4, 5]) rfl rfl rfl (fun w hw => ?_)
 exact ⟨⟨k, hk⟩, rfl, hw.base, (hw.weak (List.nil_sublist _) (fun s hs => hs)).toNews⟩

def er (full : Bool) (bs ver : Int) (P : Option Addr) (np pc : Nat) (D : Option Addr) (nd dc : Nat) : List Value := [.bool full, .int .i64 bs, .int .i64 ver, .slice P np pc, .slice D nd dc]
theorem pk_len (put : List Le) (drop : List a6) : (cK put drop).length = put.length + drop.length := by simp [cK]
theorem pk_put {put : List Le} {drop : List a6} {k : Nat} (hk : k < put.length) : (cK put drop).getD k [] = a7 (put.getD k bm).e.host := by
  rw [cK, List.getD_eq_getElem?_getD, List.getElem?_append_left (by simpa using hk), List.getElem?_map, List.getD_eq_getElem?_getD, List.getElem?_eq_getElem hk]; rfl
theorem pk_drop {put : List Le} {drop : List a6} {k : Nat} (hk : k < drop.length) : (cK put drop).getD (put.length + k) [] = a7 (drop.getD k []) := by
  rw [cK, List.getD_eq_getElem?_getD, List.getElem?_append_right (by simp), List.length_map, Nat.add_sub_cancel_left, List.getElem?_map, List.getD_eq_getElem?_getD, List.getElem?_eq_getElem hk]; rfl
theorem nd_no {ks : List a6} {k : Nat} (hk : k < ks.length) (h : ks.getD k [] ∈ ks.take k) : ¬ ks.Nodup := fun q => g7 q hk h
theorem nd_succ {ks : List a6} {k : Nat} (hk : k < ks.length) (h : (ks.take k).Nodup) (h2 : ¬ ks.getD k [] ∈ ks.take k) : (ks.take (k + 1)).Nodup := by
  rw [dh ks [] k hk, List.nodup_append]
  exact ⟨h, by simp, fun a ha b hb e => by rw [List.mem_singleton.1 hb] at e; exact h2 (e ▸ ha)⟩

set_option maxRecDepth 100000 in
set_option maxHeartbeats 1000000 in
theorem c_hosts17 (full : Bool) (bs ver : Int) (put : List Le) (P : Option Addr) (pc : Nat) (drop : List a6) (D : Option Addr) (dc : Nat) (hpl : put.length ≤ 1000000) (hdl : drop.length ≤ 1000000) (hpb : ∀ x ∈ put, x.e.host.length ≤ 1000000) (hdb : ∀ n ∈ drop, n.length ≤ 1000000) : RC Tryz.prog 186 #[.agg (er full bs ver P put.length pc D drop.length dc).toArray] [Ch.rd P 7 dF put, Ch.rd D 1 dD drop] (α := Unit) (fun _ => .bool (decide (cK put drop).Nodup)) (fun _ => []) := by
 refine bK (args := [.agg (er full bs ver P put.length pc D drop.length dc).toArray]) 39 Tryz.func186 rfl rfl rfl (fun w0 => ?_)
 have hkl := pk_len put drop
 refine ap ?_
 refine ae ?_
 refine cL rfl rfl rfl (fun b1 => ?_)
 refine aq (ai rfl) rfl rfl ?_
 refine aa ?_
 refine aj ?_
 refine ap ?_
 refine ae ?_
 refine iT (fun s : a6 => .string (ba s)) (fun b : Bool => .bool b) rfl (fun r1 => ?_)
 refine aq (ai rfl) rfl rfl ?_
 refine aa ?_
 refine aj ?_
 refine ap ?_
 refine ap ?_
 refine ae ?_
 refine aq (aB cE rfl) rfl rfl ?_
 refine aq (aC 1 bz rfl rfl rfl) rfl rfl ?_
 refine aq (bg Tryz.underlying22 rfl) rfl rfl ?_
 refine aq (am rfl) rfl rfl ?_
 refine aa ?_
 refine aj ?_
 refine aS ?_
 refine dn (σ := Nat × List (a6 × Bool)) [2, 5, 12, 13, 14, 15, 16, 17, 18, 19, 20, 21, 22, 23] (fun q => q.1 ≤ put.length ∧ MapIs q.2 ((cK put drop).take q.1) ∧ ((cK put drop).take q.1).Nodup) (fun q => put.length - q.1) (fun q => [(12, .int .i64 q.1)]) (fun q => Ch.mp r1 (fun s : a6 => .string (ba s)) (fun b : Bool => .bool b) q.2) ((0, [])) ?_ ⟨rfl, trivial⟩ rfl (fun q hI => ?_)
 exact ⟨Nat.zero_le _, fun key => rfl, .nil⟩
 obtain ⟨k, mm⟩ := q
 dsimp only at hI ⊢
 refine ap ?_
 refine ae ?_
 refine aq (bW rfl rfl) rfl rfl ?_
 refine ay (t := 13) rfl (fun h3_0 => ?_) (fun h3_0 => ?_)
 have hk : k < put.length := by omega
 have hhb := hpb _ (aZ (d := bm) hk)
 have hkk : ((cK put drop).getD k []) = a7 (put.getD k bm).e.host := pk_put hk
 have hk9 : k < (cK put drop).length := by omega
 refine aa ?_
 refine aj ?_
 refine ap ?_
 refine aA rfl ?_
 refine aQ ?_
 refine aj ?_
 refine ap ?_
 refine aS ?_
 refine ap ?_
 refine ae ?_
 refine aq (bB  Tryz.underlying22 aU rfl rfl (bF 0 rfl) rfl (by omega)) rfl rfl ?_
 refine aq (b6 bp bm aU rfl (bF 0 rfl) (by omega) rfl rfl rfl) rfl rfl ?_
 refine bH aU rfl rfl (fun b3 => ?_)
 refine aW aU rfl rfl rfl .z rfl rfl rfl rfl ?_
 refine aa ?_
 refine aj ?_
 refine ap ?_
 refine ap ?_
 refine ae ?_
 refine aq (am rfl) rfl rfl ?_
 refine aq (bu 0 aU rfl rfl rfl rfl) rfl rfl ?_
 refine bD rfl ent_71 (c_entry_Key _ _ _ _ _ (by omega)) rfl ?_
 refine aq (ix Tryz.underlying167 (fM Tryz.underlying26) iu rfl rfl (fun w hw => hw.own _ (List.mem_of_getElem? (i := 1) rfl))) rfl rfl ?_
 refine eo (t := 19) (.bool (decide (((cK put drop).getD k []) ∈ (cK put drop).take k))) rfl (by rw [hkk]; exact iW hI.2.1 _) ?_
 refine bN (t := 19) rfl (fun h5_3 => ?_) (fun h5_3 => ?_)
 refine aa ?_
 refine aj ?_
 refine aA rfl ?_
 refine ap ?_
 refine ae ?_
 refine aq (ai rfl) rfl rfl ?_
 refine aa ?_
 refine aj ?_
 refine aN ?_
 refine ax ?_
 refine aJ ?_
 refine ax ?_
 refine bh ?_
 refine aJ ?_
 refine ax ?_
 refine aR (ts := [2]) rfl rfl rfl (fun w hw => ?_)
 exact ⟨(), by rw [decide_eq_false (nd_no hk9 (of_decide_eq_true h5_3))]; rfl, hw.base, (hw.weak (List.nil_sublist _) (fun s hs => hs)).toNews⟩
 refine aa ?_
 refine aj ?_
 refine aD rfl ?_
 refine aQ ?_
 refine aj ?_
 refine ae ?_
 refine aq (am rfl) rfl rfl ?_
 refine aq (bu 0 aU rfl rfl rfl rfl) rfl rfl ?_
 refine bD rfl ent_71 (c_entry_Key _ _ _ _ _ (by omega)) rfl ?_
 refine iI Tryz.underlying167 (fM Tryz.underlying26) rfl rfl rfl (.s (.z)) ?_
 refine aa ?_
 refine bj ?_
 refine aj ?_
 refine ae ?_
 refine aq (br rfl rfl (by omega) (by omega)) rfl rfl ?_
 refine aq (am rfl) rfl rfl ?_
 refine aa ?_
 refine bv ((k + 1, upd mm (a7 (put.getD k bm).e.host) true)) ?_ ?_ ⟨rfl, trivial⟩ (by repeat (first | exact trivial | refine ⟨rfl, ?_⟩)) (bq 1)
 exact ⟨by show k + 1 ≤ _; omega, by rw [← hkk]; exact g2 hI.2.1 hk9, nd_succ hk9 hI.2.2 (of_decide_eq_false h5_3)⟩
 show put.length - (k + 1) < put.length - k
 omega
 refine aa ?_
 refine aj ?_
 refine ap ?_
 refine aD rfl ?_
 refine bJ ?_
 refine aV ?_
 refine aX ?_
 refine a8 ?_
 refine aj ?_
 refine ap ?_
 refine ap ?_
 refine ae ?_
 refine aq (aB cP rfl) rfl rfl ?_
 refine aq (aC 1 ew rfl rfl rfl) rfl rfl ?_
 refine aq (bg Tryz.underlying59 rfl) rfl rfl ?_
 refine aq (am rfl) rfl rfl ?_
 refine aa ?_
 refine aj ?_
 refine aS ?_
 obtain rfl : k = put.length := by omega
 refine dn (σ := Nat × List (a6 × Bool)) [2, 7, 27, 28, 29, 30, 31, 32, 33, 34, 35, 36, 37, 38] (fun q => q.1 ≤ drop.length ∧ MapIs q.2 ((cK put drop).take (put.length + q.1)) ∧ ((cK put drop).take (put.length + q.1)).Nodup) (fun q => drop.length - q.1) (fun q => [(27, .int .i64 q.1)]) (fun q => Ch.mp r1 (fun s : a6 => .string (ba s)) (fun b : Bool => .bool b) q.2) ((0, mm)) ?_ ⟨rfl, trivial⟩ rfl (fun q hI => ?_)
 exact ⟨Nat.zero_le _, hI.2⟩
 obtain ⟨j, mj⟩ := q
 dsimp only at hI ⊢
 refine ap ?_
 refine ae ?_
 refine aq (bW rfl rfl) rfl rfl ?_
 refine ay (t := 28) rfl (fun h10_0 => ?_) (fun h10_0 => ?_)
 have hj : j < drop.length := by omega
 have hhb := hdb _ (aZ (d := ([] : a6)) hj)
 have hkk : ((cK put drop).getD (put.length + j) []) = a7 (drop.getD j []) := pk_drop hj
 have hk9 : put.length + j < (cK put drop).length := by omega
 refine aa ?_
 refine aj ?_
 refine ap ?_
 refine aA rfl ?_
 refine aQ ?_
 refine aj ?_
 refine ap ?_
 refine aS ?_
 refine ap ?_
 refine ae ?_
 refine aq (bB  Tryz.underlying59 bE rfl rfl (bF 1 rfl) rfl (by omega)) rfl rfl ?_
 refine aq (bZ bV ([] : a6) bE rfl (bF 1 rfl) (by omega) rfl rfl) rfl rfl ?_
 refine aq (ai rfl) rfl rfl ?_
 refine aa ?_
 refine aj ?_
 refine ap ?_
 refine ap ?_
 refine ae ?_
 refine aq (am rfl) rfl rfl ?_
 refine aq (am rfl) rfl rfl ?_
 refine bD rfl ent_73 (gx _ (by omega)) rfl ?_
 refine aq (ix Tryz.underlying167 (fM Tryz.underlying26) iu rfl rfl (fun w hw => hw.own _ (List.mem_of_getElem? (i := 0) rfl))) rfl rfl ?_
 refine eo (t := 34) (.bool (decide (((cK put drop).getD (put.length + j) []) ∈ (cK put drop).take (put.length + j)))) rfl (by rw [hkk]; exact iW hI.2.1 _) ?_
 refine bN (t := 34) rfl (fun h12_3 => ?_) (fun h12_3 => ?_)
 refine aa ?_
 refine aj ?_
 refine aA rfl ?_
 refine ap ?_
 refine ae ?_
 refine aq (ai rfl) rfl rfl ?_
 refine aa ?_
 refine aj ?_
 refine aN ?_
 refine ax ?_
 refine aJ ?_
 refine ax ?_
 refine bh ?_
 refine aJ ?_
 refine ax ?_
 refine aR (ts := [2]) rfl rfl rfl (fun w hw => ?_)
 exact ⟨(), by rw [decide_eq_false (nd_no hk9 (of_decide_eq_true h12_3))]; rfl, hw.base, (hw.weak (List.nil_sublist _) (fun s hs => hs)).toNews⟩
 refine aa ?_
 refine aj ?_
 refine aD rfl ?_
 refine aQ ?_
 refine aj ?_
 refine ae ?_
 refine aq (am rfl) rfl rfl ?_
 refine aq (am rfl) rfl rfl ?_
 refine bD rfl ent_73 (gx _ (by omega)) rfl ?_
 refine iI Tryz.underlying167 (fM Tryz.underlying26) rfl rfl rfl .z ?_
 refine aa ?_
 refine bj ?_
 refine aj ?_
 refine ae ?_
 refine aq (br rfl rfl (by omega) (by omega)) rfl rfl ?_
 refine aq (am rfl) rfl rfl ?_
 refine aa ?_
 refine bv ((j + 1, upd mj (a7 (drop.getD j [])) true)) ?_ ?_ ⟨rfl, trivial⟩ (by repeat (first | exact trivial | refine ⟨rfl, ?_⟩)) aG
 exact ⟨by show j + 1 ≤ _; omega, by rw [← hkk]; exact g2 hI.2.1 hk9, nd_succ hk9 hI.2.2 (of_decide_eq_false h12_3)⟩
 show drop.length - (j + 1) < drop.length - j
 omega
 refine aa ?_
 refine aj ?_
 refine ap ?_
 refine aD rfl ?_
 refine bJ ?_
 refine aV ?_
 refine aX ?_
 refine a8 ?_
 refine aj ?_
 refine ap ?_
 refine ae ?_
 refine aq (ai rfl) rfl rfl ?_
 refine aa ?_
 refine aj ?_
 refine aN ?_
 refine aR (ts := [2]) rfl rfl rfl (fun w hw => ?_)
 have hnd := hI.2.2
 rw [show put.length + j = (cK put drop).length by omega, List.take_length] at hnd
 exact ⟨(), by rw [decide_eq_true hnd]; rfl, hw.base, (hw.weak (List.nil_sublist _) (fun s hs => hs)).toNews⟩

theorem c_form17 (v : Int) (l : List Le) (A : Option Addr) (c : Nat) (full : Bool) (bs ver : Int) (put : List Le) (P : Option Addr) (pc : Nat) (drop : List a6) (D : Option Addr) (dc : Nat) : RC Tryz.prog 124 #[.agg (eE v A l.length c).toArray, .agg (er full bs ver P put.length pc D drop.length dc).toArray] [] (α := Unit) (fun _ => .int .i64 (dA v full bs ver drop.length)) (fun _ => []) := by
 refine bK (args := [.agg (eE v A l.length c).toArray, .agg (er full bs ver P put.length pc D drop.length dc).toArray]) 41 Tryz.func124 rfl rfl rfl (fun w0 => ?_)
 refine ap ?_
 refine ae ?_
 refine cL rfl rfl rfl (fun b1 => ?_)
 refine cL rfl rfl rfl (fun b2 => ?_)
 refine aq (ai rfl) rfl rfl ?_
 refine aa ?_
 refine aj ?_
 refine ap ?_
 refine aS ?_
 refine ap ?_
 refine ae ?_
 refine aq (aB fC rfl) rfl rfl ?_
 refine aq (aC 0 cX rfl rfl rfl) rfl rfl ?_
 refine aq (aB dZ rfl) rfl rfl ?_
 refine aq (aC 1 cX rfl rfl rfl) rfl rfl ?_
 refine aq (ff rfl rfl) rfl rfl ?_
 refine ay (t := 10) rfl (fun h1_4 => ?_) (fun h1_4 => ?_)
 refine aq (am rfl) rfl rfl ?_
 refine ar rfl rfl rfl rfl ?_
 refine ar rfl rfl rfl rfl ?_
 refine ar rfl rfl rfl rfl ?_
 refine aq (aH rfl rfl) rfl rfl ?_
 refine aq (ai rfl) rfl rfl ?_
 refine aa ?_
 refine aj ?_
 refine aA rfl ?_
 refine ap ?_
 refine ae ?_
 refine aq (ai rfl) rfl rfl ?_
 refine aa ?_
 refine aj ?_
 refine aN ?_
 refine aJ ?_
 refine ax ?_
 refine aR (ts := [4]) rfl rfl rfl (fun w hw => ?_)
 refine ⟨(), ?_, hw.base, (hw.weak (List.nil_sublist _) (fun s hs => hs)).toNews⟩
 show Ending.returned (.int _ _) = _
 congr 2
 unfold dA
 cases full <;> simp only [if_true, Bool.false_eq_true, if_false] <;> (repeat split) <;> first | rfl | (exfalso; omega) | (simp_all; done) | (simp_all; omega)
 refine aq (am rfl) rfl rfl ?_
 refine au rfl rfl ?_
 refine aq (aB fC rfl) rfl rfl ?_
 refine au rfl rfl ?_
 refine aq (aC 0 cX rfl rfl rfl) rfl rfl ?_
 refine au rfl rfl ?_
 refine aq (dB rfl rfl) rfl rfl ?_
 refine ay (t := 14) rfl (fun h1_8 => ?_) (fun h1_8 => ?_)
 refine aq (aF rfl rfl) rfl rfl ?_
 refine aq (ai rfl) rfl rfl ?_
 refine aa ?_
 refine aj ?_
 refine aA rfl ?_
 refine ap ?_
 refine ae ?_
 refine aq (ai rfl) rfl rfl ?_
 refine aa ?_
 refine aj ?_
 refine aN ?_
 refine aJ ?_
 refine ax ?_
 refine aR (ts := [4]) rfl rfl rfl (fun w hw => ?_)
 refine ⟨(), ?_, hw.base, (hw.weak (List.nil_sublist _) (fun s hs => hs)).toNews⟩
 show Ending.returned (.int _ _) = _
 congr 2
 unfold dA
 cases full <;> simp only [if_true, Bool.false_eq_true, if_false] <;> (repeat split) <;> first | rfl | (exfalso; omega) | (simp_all; done) | (simp_all; omega)
 refine aq (aF rfl rfl) rfl rfl ?_
 refine aq (ai rfl) rfl rfl ?_
 refine aa ?_
 refine aj ?_
 refine aD rfl ?_
 refine ap ?_
 refine ae ?_
 refine aq (aB eH rfl) rfl rfl ?_
 refine aq (aC 0 iu rfl rfl rfl) rfl rfl ?_
 refine bN (t := 18) rfl (fun h3_1 => ?_) (fun h3_1 => ?_)
 refine aq (am rfl) rfl rfl ?_
 refine au rfl rfl ?_
 refine aq (aB gm rfl) rfl rfl ?_
 refine au rfl rfl ?_
 refine aq (aC 0 cX rfl rfl rfl) rfl rfl ?_
 refine au rfl rfl ?_
 refine aq (cO rfl rfl) rfl rfl ?_
 refine ay (t := 22) rfl (fun h3_5 => ?_) (fun h3_5 => ?_)
 refine au rfl rfl ?_
 refine aq (am rfl) rfl rfl ?_
 refine ar rfl rfl rfl rfl ?_
 refine ar rfl rfl rfl rfl ?_
 refine ar rfl rfl rfl rfl ?_
 refine ar rfl rfl rfl rfl ?_
 refine au rfl rfl ?_
 refine aq (aH rfl rfl) rfl rfl ?_
 refine aq (aH rfl rfl) rfl rfl ?_
 refine aq (ai rfl) rfl rfl ?_
 refine aa ?_
 refine aj ?_
 refine aA rfl ?_
 refine ap ?_
 refine ae ?_
 refine aq (ai rfl) rfl rfl ?_
 refine aa ?_
 refine aj ?_
 refine aN ?_
 refine aJ ?_
 refine ax ?_
 refine aR (ts := [4]) rfl rfl rfl (fun w hw => ?_)
 refine ⟨(), ?_, hw.base, (hw.weak (List.nil_sublist _) (fun s hs => hs)).toNews⟩
 show Ending.returned (.int _ _) = _
 congr 2
 unfold dA
 cases full <;> simp only [if_true, Bool.false_eq_true, if_false] <;> (repeat split) <;> first | rfl | (exfalso; omega) | (simp_all; done) | (simp_all; omega)
 refine au rfl rfl ?_
 refine aq (am rfl) rfl rfl ?_
 refine au rfl rfl ?_
 refine aq (aB cP rfl) rfl rfl ?_
 refine au rfl rfl ?_
 refine aq (aC 0 ew rfl rfl rfl) rfl rfl ?_
 refine au rfl rfl ?_
 refine aq (bg Tryz.underlying59 rfl) rfl rfl ?_
 refine au rfl rfl ?_
 refine aq (dB rfl rfl) rfl rfl ?_
 refine ay (t := 27) rfl (fun h3_10 => ?_) (fun h3_10 => ?_)
 refine au rfl rfl ?_
 refine aq (aF rfl rfl) rfl rfl ?_
 refine aq (aH rfl rfl) rfl rfl ?_
 refine aq (ai rfl) rfl rfl ?_
 refine aa ?_
 refine aj ?_
 refine aA rfl ?_
 refine ap ?_
 refine ae ?_
 refine aq (ai rfl) rfl rfl ?_
 refine aa ?_
 refine aj ?_
 refine aN ?_
 refine aJ ?_
 refine ax ?_
 refine aR (ts := [4]) rfl rfl rfl (fun w hw => ?_)
 refine ⟨(), ?_, hw.base, (hw.weak (List.nil_sublist _) (fun s hs => hs)).toNews⟩
 show Ending.returned (.int _ _) = _
 congr 2
 unfold dA
 cases full <;> simp only [if_true, Bool.false_eq_true, if_false] <;> (repeat split) <;> first | rfl | (exfalso; omega) | (simp_all; done) | (simp_all; omega)
 refine au rfl rfl ?_
 refine aq (aF rfl rfl) rfl rfl ?_
 refine aq (aH rfl rfl) rfl rfl ?_
 refine aq (ai rfl) rfl rfl ?_
 refine aa ?_
 refine aj ?_
 refine aD rfl ?_
 refine ap ?_
 refine ae ?_
 refine aq (aB eH rfl) rfl rfl ?_
 refine aq (aC 0 iu rfl rfl rfl) rfl rfl ?_
 refine bN (t := 32) rfl (fun h5_1 => ?_) (fun h5_1 => ?_)
 refine aq (bS rfl) rfl rfl ?_
 refine aq (am rfl) rfl rfl ?_
 refine ar rfl rfl rfl rfl ?_
 refine ar rfl rfl rfl rfl ?_
 refine ar rfl rfl rfl rfl ?_
 refine ar rfl rfl rfl rfl ?_
 refine ar rfl rfl rfl rfl ?_
 refine aq (aF rfl rfl) rfl rfl ?_
 refine aq (ai rfl) rfl rfl ?_
 refine aa ?_
 refine aj ?_
 refine aD rfl ?_
 refine aQ ?_
 refine bj ?_
 refine aj ?_
 refine ap ?_
 refine ae ?_
 refine aq (ai rfl) rfl rfl ?_
 refine aa ?_
 refine aj ?_
 refine aN ?_
 refine aR (ts := [4]) rfl rfl rfl (fun w hw => ?_)
 refine ⟨(), ?_, hw.base, (hw.weak (List.nil_sublist _) (fun s hs => hs)).toNews⟩
 show Ending.returned (.int _ _) = _
 congr 2
 unfold dA
 cases full <;> simp only [if_true, Bool.false_eq_true, if_false] <;> (repeat split) <;> first | rfl | (exfalso; omega) | (simp_all; done) | (simp_all; omega)
 refine aq (bS rfl) rfl rfl ?_
 refine aq (am rfl) rfl rfl ?_
 refine au rfl rfl ?_
 refine aq (aB gm rfl) rfl rfl ?_
 refine au rfl rfl ?_
 refine aq (aC 0 cX rfl rfl rfl) rfl rfl ?_
 refine au rfl rfl ?_
 refine aq (aB dZ rfl) rfl rfl ?_
 refine au rfl rfl ?_
 refine aq (aC 1 cX rfl rfl rfl) rfl rfl ?_
 refine au rfl rfl ?_
 refine aq (cO rfl rfl) rfl rfl ?_
 refine ay (t := 39) rfl (fun h5_8 => ?_) (fun h5_8 => ?_)
 refine aq (aH rfl rfl) rfl rfl ?_
 refine aq (ai rfl) rfl rfl ?_
 refine aa ?_
 refine aj ?_
 refine aA rfl ?_
 refine ap ?_
 refine ae ?_
 refine aq (ai rfl) rfl rfl ?_
 refine aa ?_
 refine aj ?_
 refine aN ?_
 refine aJ ?_
 refine ax ?_
 refine aR (ts := [4]) rfl rfl rfl (fun w hw => ?_)
 refine ⟨(), ?_, hw.base, (hw.weak (List.nil_sublist _) (fun s hs => hs)).toNews⟩
 show Ending.returned (.int _ _) = _
 congr 2
 unfold dA
 cases full <;> simp only [if_true, Bool.false_eq_true, if_false] <;> (repeat split) <;> first | rfl | (exfalso; omega) | (simp_all; done) | (simp_all; omega)
 refine aq (aH rfl rfl) rfl rfl ?_
 refine aq (ai rfl) rfl rfl ?_
 refine aa ?_
 refine aj ?_
 refine aD rfl ?_
 refine aQ ?_
 refine bj ?_
 refine aj ?_
 refine ap ?_
 refine ae ?_
 refine aq (ai rfl) rfl rfl ?_
 refine aa ?_
 refine aj ?_
 refine aN ?_
 refine aR (ts := [4]) rfl rfl rfl (fun w hw => ?_)
 refine ⟨(), ?_, hw.base, (hw.weak (List.nil_sublist _) (fun s hs => hs)).toNews⟩
 show Ending.returned (.int _ _) = _
 congr 2
 unfold dA
 cases full <;> simp only [if_true, Bool.false_eq_true, if_false] <;> (repeat split) <;> first | rfl | (exfalso; omega) | (simp_all; done) | (simp_all; omega)
 refine aq (am rfl) rfl rfl ?_
 refine ar rfl rfl rfl rfl ?_
 refine ar rfl rfl rfl rfl ?_
 refine ar rfl rfl rfl rfl ?_
 refine ar rfl rfl rfl rfl ?_
 refine cT rfl rfl rfl ?_
 refine cT rfl rfl rfl ?_
 refine cT rfl rfl rfl ?_
 refine cT rfl rfl rfl ?_
 refine ar rfl rfl rfl rfl ?_
 refine aq (aF rfl rfl) rfl rfl ?_
 refine aq (ai rfl) rfl rfl ?_
 refine aa ?_
 refine aj ?_
 refine aD rfl ?_
 refine ap ?_
 refine ae ?_
 refine aq (aB eH rfl) rfl rfl ?_
 refine aq (aC 0 iu rfl rfl rfl) rfl rfl ?_
 refine bN (t := 32) rfl (fun h5_1 => ?_) (fun h5_1 => ?_)
 refine aq (bS rfl) rfl rfl ?_
 refine aq (am rfl) rfl rfl ?_
 refine ar rfl rfl rfl rfl ?_
 refine ar rfl rfl rfl rfl ?_
 refine ar rfl rfl rfl rfl ?_
 refine ar rfl rfl rfl rfl ?_
 refine ar rfl rfl rfl rfl ?_
 refine aq (aF rfl rfl) rfl rfl ?_
 refine aq (ai rfl) rfl rfl ?_
 refine aa ?_
 refine aj ?_
 refine aD rfl ?_
 refine aQ ?_
 refine bj ?_
 refine aj ?_
 refine ap ?_
 refine ae ?_
 refine aq (ai rfl) rfl rfl ?_
 refine aa ?_
 refine aj ?_
 refine aN ?_
 refine aR (ts := [4]) rfl rfl rfl (fun w hw => ?_)
 refine ⟨(), ?_, hw.base, (hw.weak (List.nil_sublist _) (fun s hs => hs)).toNews⟩
 show Ending.returned (.int _ _) = _
 congr 2
 unfold dA
 cases full <;> simp only [if_true, Bool.false_eq_true, if_false] <;> (repeat split) <;> first | rfl | (exfalso; omega) | (simp_all; done) | (simp_all; omega)
 refine aq (bS rfl) rfl rfl ?_
 refine aq (am rfl) rfl rfl ?_
 refine au rfl rfl ?_
 refine aq (aB gm rfl) rfl rfl ?_
 refine au rfl rfl ?_
 refine aq (aC 0 cX rfl rfl rfl) rfl rfl ?_
 refine au rfl rfl ?_
 refine aq (aB dZ rfl) rfl rfl ?_
 refine au rfl rfl ?_
 refine aq (aC 1 cX rfl rfl rfl) rfl rfl ?_
 refine au rfl rfl ?_
 refine aq (cO rfl rfl) rfl rfl ?_
 refine ay (t := 39) rfl (fun h5_8 => ?_) (fun h5_8 => ?_)
 refine aq (aH rfl rfl) rfl rfl ?_
 refine aq (ai rfl) rfl rfl ?_
 refine aa ?_
 refine aj ?_
 refine aA rfl ?_
 refine ap ?_
 refine ae ?_
 refine aq (ai rfl) rfl rfl ?_
 refine aa ?_
 refine aj ?_
 refine aN ?_
 refine aJ ?_
 refine ax ?_
 refine aR (ts := [4]) rfl rfl rfl (fun w hw => ?_)
 refine ⟨(), ?_, hw.base, (hw.weak (List.nil_sublist _) (fun s hs => hs)).toNews⟩
 show Ending.returned (.int _ _) = _
 congr 2
 unfold dA
 cases full <;> simp only [if_true, Bool.false_eq_true, if_false] <;> (repeat split) <;> first | rfl | (exfalso; omega) | (simp_all; done) | (simp_all; omega)
 refine aq (aH rfl rfl) rfl rfl ?_
 refine aq (ai rfl) rfl rfl ?_
 refine aa ?_
 refine aj ?_
 refine aD rfl ?_
 refine aQ ?_
 refine bj ?_
 refine aj ?_
 refine ap ?_
 refine ae ?_
 refine aq (ai rfl) rfl rfl ?_
 refine aa ?_
 refine aj ?_
 refine aN ?_
 refine aR (ts := [4]) rfl rfl rfl (fun w hw => ?_)
 refine ⟨(), ?_, hw.base, (hw.weak (List.nil_sublist _) (fun s hs => hs)).toNews⟩
 show Ending.returned (.int _ _) = _
 congr 2
 unfold dA
 cases full <;> simp only [if_true, Bool.false_eq_true, if_false] <;> (repeat split) <;> first | rfl | (exfalso; omega) | (simp_all; done) | (simp_all; omega)

set_option maxRecDepth 100000 in
set_option maxHeartbeats 1000000 in
theorem c_parts17 (full : Bool) (bs ver : Int) (put : List Le) (P : Option Addr) (pc : Nat) (drop : List a6) (D : Option Addr) (dc : Nat) (hpok : TbOk put) (hpl : put.length ≤ 1000000) (hdl : drop.length ≤ 1000000) (hdb : ∀ n ∈ drop, n.length ≤ 1000000) : RC Tryz.prog 125 #[.agg (er full bs ver P put.length pc D drop.length dc).toArray] [Ch.rd P 7 dF put, Ch.rall (put.flatMap fm), Ch.rd D 1 dD drop] (α := Unit) (fun _ => .int .i64 (ct put drop)) (fun _ => []) := by
 refine bK (args := [.agg (er full bs ver P put.length pc D drop.length dc).toArray]) 38 Tryz.func125 rfl rfl rfl (fun w0 => ?_)
 have hpb : ∀ x ∈ put, x.e.host.length ≤ 1000000 := fun x hx => by have := jW (hpok x hx).2; omega
 refine ap ?_
 refine ae ?_
 refine cL rfl rfl rfl (fun b1 => ?_)
 refine aq (ai rfl) rfl rfl ?_
 refine aa ?_
 refine aj ?_
 refine ap ?_
 refine ap ?_
 refine ae ?_
 refine aq (aB cE rfl) rfl rfl ?_
 refine aq (aC 0 bz rfl rfl rfl) rfl rfl ?_
 refine aq (bg Tryz.underlying22 rfl) rfl rfl ?_
 refine aq (am rfl) rfl rfl ?_
 refine aa ?_
 refine aj ?_
 refine aS ?_
 refine cC (σ := Nat) [2, 4, 5, 12, 13, 14, 15, 16, 17, 18, 19, 20, 21] (fun k => k ≤ put.length ∧ cA put = cA (put.drop k)) (fun k => put.length - k) (fun k => [(12, .int .i64 k)]) (0) ?_ ⟨rfl, trivial⟩ (fun k hI => ?_)
 exact ⟨Nat.zero_le _, rfl⟩
 refine ap ?_
 refine ae ?_
 refine aq (bW rfl rfl) rfl rfl ?_
 refine ay (t := 13) rfl (fun h2_0 => ?_) (fun h2_0 => ?_)
 have hk : k < put.length := by omega
 have hb9 := hpok.at hk
 have hdk := drop_getE hk
 refine aa ?_
 refine aj ?_
 refine ap ?_
 refine aA rfl ?_
 refine aQ ?_
 refine aj ?_
 refine ap ?_
 refine aS ?_
 refine ap ?_
 refine ae ?_
 refine aq (bB  Tryz.underlying22 aU rfl rfl (bF 0 rfl) rfl (by omega)) rfl rfl ?_
 refine aq (b6 bp bm aU rfl (bF 0 rfl) (by omega) rfl rfl rfl) rfl rfl ?_
 refine bH aU rfl rfl (fun b2 => ?_)
 refine aW aU rfl rfl rfl .z rfl rfl rfl rfl ?_
 refine aa ?_
 refine aj ?_
 refine ap ?_
 refine ae ?_
 refine aq (bu 0 aU rfl rfl rfl rfl) rfl rfl ?_
 refine bA rfl ent_138 rfl (jb _ _ _ _ _ hb9.wa (by have := hb9.la; omega) (by have := hb9.lp; omega) hb9.k) (fun w hw => (az (cJ (bo 1 rfl hw) (bM (aZ (by omega)) _ (hU _))) (az (cJ (bo 1 rfl hw) (bM (aZ (by omega)) _ (im _))) aY))) ?_
 refine aq (ai rfl) rfl rfl ?_
 refine aa ?_
 refine aj ?_
 refine ap ?_
 refine ae ?_
 refine aq (am rfl) rfl rfl ?_
 refine aq (cO rfl rfl) rfl rfl ?_
 refine ay (t := 19) rfl (fun h5_1 => ?_) (fun h5_1 => ?_)
 refine aa ?_
 refine aj ?_
 refine aA rfl ?_
 refine ap ?_
 have he9 : cA put = cV (put.getD k bm).e := by rw [hI.2, hdk, cA, if_pos h5_1]
 refine ae ?_
 refine aq (am rfl) rfl rfl ?_
 refine aq (ai rfl) rfl rfl ?_
 refine aa ?_
 refine aj ?_
 refine aN ?_
 refine aJ ?_
 refine ax ?_
 refine bh ?_
 refine aJ ?_
 refine ax ?_
 refine aR (ts := [2]) rfl rfl rfl (fun w hw => ?_)
 refine ⟨(), ?_, hw.base, (hw.weak (List.nil_sublist _) (fun s hs => hs)).toNews⟩
 show Ending.returned (.int _ _) = _
 congr 2
 focus first
   | (rw [ct, if_pos (by omega), he9]
      done)
   | (rw [ct, if_neg (by omega), if_pos (by omega), hn9]
      done)
   | (rw [ct, if_neg (by omega), if_neg (by omega), if_neg (by simpa using h15_1)]
      done)
   | (rw [ct, if_neg (by omega), if_neg (by omega), if_pos (by simpa using h15_1)]
      done)
   | (trace_state; fail)
 refine aa ?_
 refine aj ?_
 refine aD rfl ?_
 refine aQ ?_
 refine bj ?_
 refine aj ?_
 refine ae ?_
 refine aq (br rfl rfl (by omega) (by omega)) rfl rfl ?_
 refine aq (am rfl) rfl rfl ?_
 refine aa ?_
 refine bv (k + 1) ?_ ?_ ⟨rfl, trivial⟩ (by repeat (first | exact trivial | refine ⟨rfl, ?_⟩)) (bq 1)
 exact ⟨by omega, by rw [hI.2, hdk, cA, if_neg h5_1]⟩
 omega
 refine aa ?_
 refine aj ?_
 refine ap ?_
 refine aD rfl ?_
 refine bJ ?_
 refine aV ?_
 refine aX ?_
 refine a8 ?_
 refine aj ?_
 refine ap ?_
 refine ap ?_
 refine ae ?_
 refine aq (aB cP rfl) rfl rfl ?_
 refine aq (aC 0 ew rfl rfl rfl) rfl rfl ?_
 refine aq (bg Tryz.underlying59 rfl) rfl rfl ?_
 refine aq (am rfl) rfl rfl ?_
 refine aa ?_
 refine aj ?_
 refine aS ?_
 have he0 : cA put = 0 := by rw [hI.2, List.drop_of_length_le (by omega)]; rfl
 refine cC (σ := Nat) [2, 7, 8, 25, 26, 27, 28, 29, 30, 31, 32, 33, 34] (fun j => j ≤ drop.length ∧ dm drop = dm (drop.drop j)) (fun j => drop.length - j) (fun j => [(25, .int .i64 j)]) (0) ?_ ⟨rfl, trivial⟩ (fun j hI => ?_)
 exact ⟨Nat.zero_le _, rfl⟩
 refine ap ?_
 refine ae ?_
 refine aq (bW rfl rfl) rfl rfl ?_
 refine ay (t := 26) rfl (fun h9_0 => ?_) (fun h9_0 => ?_)
 have hj : j < drop.length := by omega
 have hhb := hdb _ (aZ (d := ([] : a6)) hj)
 have hdj := bG drop ([] : a6) j hj
 refine aa ?_
 refine aj ?_
 refine ap ?_
 refine aA rfl ?_
 refine aQ ?_
 refine aj ?_
 refine ap ?_
 refine aS ?_
 refine ap ?_
 refine ae ?_
 refine aq (bB  Tryz.underlying59 bE rfl rfl (bF 2 rfl) rfl (by omega)) rfl rfl ?_
 refine aq (bZ bV ([] : a6) bE rfl (bF 2 rfl) (by omega) rfl rfl) rfl rfl ?_
 refine aq (ai rfl) rfl rfl ?_
 refine aa ?_
 refine aj ?_
 refine ap ?_
 refine ae ?_
 refine aq (am rfl) rfl rfl ?_
 refine bD rfl ent_74 (eP _) rfl ?_
 refine aq (ai rfl) rfl rfl ?_
 refine aa ?_
 refine aj ?_
 refine ap ?_
 refine ae ?_
 refine aq (am rfl) rfl rfl ?_
 refine aq (cO rfl rfl) rfl rfl ?_
 refine ay (t := 32) rfl (fun h12_1 => ?_) (fun h12_1 => ?_)
 refine aa ?_
 refine aj ?_
 refine aA rfl ?_
 refine ap ?_
 have hn9 : dm drop = bd (drop.getD j []) := by rw [hI.2, hdj, dm, if_pos h12_1]
 refine ae ?_
 refine aq (am rfl) rfl rfl ?_
 refine aq (ai rfl) rfl rfl ?_
 refine aa ?_
 refine aj ?_
 refine aN ?_
 refine aJ ?_
 refine ax ?_
 refine bh ?_
 refine aJ ?_
 refine ax ?_
 refine aR (ts := [2]) rfl rfl rfl (fun w hw => ?_)
 refine ⟨(), ?_, hw.base, (hw.weak (List.nil_sublist _) (fun s hs => hs)).toNews⟩
 show Ending.returned (.int _ _) = _
 congr 2
 focus first
   | (rw [ct, if_pos (by omega), he9]
      done)
   | (rw [ct, if_neg (by omega), if_pos (by omega), hn9]
      done)
   | (rw [ct, if_neg (by omega), if_neg (by omega), if_neg (by simpa using h15_1)]
      done)
   | (rw [ct, if_neg (by omega), if_neg (by omega), if_pos (by simpa using h15_1)]
      done)
   | (trace_state; fail)
 refine aa ?_
 refine aj ?_
 refine aD rfl ?_
 refine aQ ?_
 refine bj ?_
 refine aj ?_
 refine ae ?_
 refine aq (br rfl rfl (by omega) (by omega)) rfl rfl ?_
 refine aq (am rfl) rfl rfl ?_
 refine aa ?_
 refine bv (j + 1) ?_ ?_ ⟨rfl, trivial⟩ (by repeat (first | exact trivial | refine ⟨rfl, ?_⟩)) aG
 exact ⟨by omega, by rw [hI.2, hdj, dm, if_neg h12_1]⟩
 omega
 refine aa ?_
 refine aj ?_
 refine ap ?_
 refine aD rfl ?_
 refine bJ ?_
 refine aV ?_
 refine aX ?_
 refine a8 ?_
 refine aj ?_
 refine ap ?_
 refine ap ?_
 have hn0 : dm drop = 0 := by rw [hI.2, List.drop_of_length_le (by omega)]; rfl
 refine ae ?_
 refine aq (bu 0 bL rfl rfl rfl rfl) rfl rfl ?_
 refine bA rfl ent_186 rfl (c_hosts17 full bs ver put P pc drop D dc hpl hdl hpb hdb) (fun w hw => (az (bo 0 rfl hw) (az (bo 2 rfl hw) aY))) ?_
 refine bN (t := 36) rfl (fun h15_1 => ?_) (fun h15_1 => ?_)
 refine aq (bS rfl) rfl rfl ?_
 refine aa ?_
 refine aj ?_
 refine aD rfl ?_
 refine aQ ?_
 refine aj ?_
 refine ap ?_
 refine ae ?_
 refine aq (ai rfl) rfl rfl ?_
 refine aa ?_
 refine aj ?_
 refine aN ?_
 refine aR (ts := [2]) rfl rfl rfl (fun w hw => ?_)
 refine ⟨(), ?_, hw.base, (hw.weak (List.nil_sublist _) (fun s hs => hs)).toNews⟩
 show Ending.returned (.int _ _) = _
 congr 2
 focus first
   | (rw [ct, if_pos (by omega), he9]
      done)
   | (rw [ct, if_neg (by omega), if_pos (by omega), hn9]
      done)
   | (rw [ct, if_neg (by omega), if_neg (by omega), if_neg (by simpa using h15_1)]
      done)
   | (rw [ct, if_neg (by omega), if_neg (by omega), if_pos (by simpa using h15_1)]
      done)
   | (trace_state; fail)
 refine aq (bS rfl) rfl rfl ?_
 refine aa ?_
 refine aj ?_
 refine aA rfl ?_
 refine ap ?_
 refine ae ?_
 refine aq (ai rfl) rfl rfl ?_
 refine aa ?_
 refine aj ?_
 refine aN ?_
 refine ax ?_
 refine aR (ts := [2]) rfl rfl rfl (fun w hw => ?_)
 refine ⟨(), ?_, hw.base, (hw.weak (List.nil_sublist _) (fun s hs => hs)).toNews⟩
 show Ending.returned (.int _ _) = _
 congr 2
 focus first
   | (rw [ct, if_pos (by omega), he9]
      done)
   | (rw [ct, if_neg (by omega), if_pos (by omega), hn9]
      done)
   | (rw [ct, if_neg (by omega), if_neg (by omega), if_neg (by simpa using h15_1)]
      done)
   | (rw [ct, if_neg (by omega), if_neg (by omega), if_pos (by simpa using h15_1)]
      done)
   | (trace_state; fail)

theorem c_tApply1 (x y : Le) (hx : x.e.host.length ≤ 1000000000) (hy : y.e.host.length ≤ 1000000000) : eC Tryz.prog 130 #[.agg (dF x).toArray, .agg (dF y).toArray] (.int .i64 (bR x.e.host y.e.host)) := by
 intro w0
 refine bT (ok0 := no) (S := []) (args := [.agg (dF x).toArray, .agg (dF y).toArray]) 10 Tryz.func130 rfl rfl rfl (by simp) (by simp) ?_
 refine ap ?_
 refine ae ?_
 refine cL rfl rfl rfl (fun b1 => ?_)
 refine cL rfl rfl rfl (fun b2 => ?_)
 refine aq (ai rfl) rfl rfl ?_
 refine aa ?_
 refine aj ?_
 refine ap ?_
 refine ae ?_
 refine aq (aB cM rfl) rfl rfl ?_
 refine aq (aC 1 bE rfl rfl rfl) rfl rfl ?_
 refine aq (aB cM rfl) rfl rfl ?_
 refine aq (aC 0 bE rfl rfl rfl) rfl rfl ?_
 refine bD rfl jV (fv x.e.host y.e.host (by omega) (by omega)) rfl ?_
 refine aq (ai rfl) rfl rfl ?_
 refine aa ?_
 refine aj ?_
 refine aN ?_
 refine aR (ts := [4]) rfl rfl rfl (fun w hw => ?_)
 exact ⟨rfl, hw.base⟩

def sortEn_ren : Go.Shelf.Ren := ⟨fun | 6 => 129 | 15 => 190 | 14 => 189 | 28 => 230 | 29 => 231 | 20 => 222 | 21 => 223 | 22 => 224 | 23 => 225 | 24 => 226 | 25 => 227 | 26 => 228 | 27 => 229 | 46 => 248 | 47 => 249 | 48 => 250 | 49 => 251 | 50 => 252 | 57 => 261 | n => n, fun | 22 => 22 | 24 => 34 | 25 => 186 | 3 => 3 | 39 => 202 | 0 => 0 | 53 => 32 | 55 => 27 | 4 => 4 | 46 => 264 | 45 => 263 | 50 => 163 | 5 => 5 | 9 => 9 | 66 => 280 | 70 => 284 | 76 => 292 | 77 => 293 | n => n, fun | n => n⟩
theorem sortEn : Go.Proofs.SlLaysF0.n6 Tryz.prog sortEn_ren := {
  mixed := by kernel_rfl,
  f6 := ⟨Tryz.f129.name, by decide, Tryz.func129.trans (congrArg some (by kernel_rfl))⟩,
  f14 := ⟨Tryz.f189.name, by decide, Tryz.func189.trans (congrArg some (by kernel_rfl))⟩,
  f15 := Tryz.func190.trans (congrArg some (by kernel_rfl)),
  f20 := ⟨Tryz.f222.name, by decide, Tryz.func222.trans (congrArg some (by kernel_rfl))⟩,
  f21 := ⟨Tryz.f223.name, by decide, Tryz.func223.trans (congrArg some (by kernel_rfl))⟩,
  f22 := ⟨Tryz.f224.name, by decide, Tryz.func224.trans (congrArg some (by kernel_rfl))⟩,
  f23 := ⟨Tryz.f225.name, by decide, Tryz.func225.trans (congrArg some (by kernel_rfl))⟩,
  f24 := ⟨Tryz.f226.name, by decide, Tryz.func226.trans (congrArg some (by kernel_rfl))⟩,
  f25 := ⟨Tryz.f227.name, by decide, Tryz.func227.trans (congrArg some (by kernel_rfl))⟩,
  f26 := ⟨Tryz.f228.name, by decide, Tryz.func228.trans (congrArg some (by kernel_rfl))⟩,
  f27 := ⟨Tryz.f229.name, by decide, Tryz.func229.trans (congrArg some (by kernel_rfl))⟩,
  f28 := Tryz.func230.trans (congrArg some (by kernel_rfl)),
  f29 := Tryz.func231.trans (congrArg some (by kernel_rfl)),
  f46 := ⟨Tryz.f248.name, by decide, Tryz.func248.trans (congrArg some (by kernel_rfl))⟩,
  f47 := Tryz.func249.trans (congrArg some (by kernel_rfl)),
  f48 := Tryz.func250.trans (congrArg some (by kernel_rfl)),
  f49 := ⟨Tryz.f251.name, by decide, Tryz.func251.trans (congrArg some (by kernel_rfl))⟩,
  f50 := ⟨Tryz.f252.name, by decide, Tryz.func252.trans (congrArg some (by kernel_rfl))⟩,
  f57 := ⟨Tryz.f261.name, by decide, Tryz.func261.trans (congrArg some (by kernel_rfl))⟩,
  t0 := Tryz.underlying0,
  a0 := Tryz.isAgg0,
  z0 := Tryz.sizeOf0,
  v0 := Tryz.zeroValue0,
  t3 := Tryz.underlying3,
  a3 := Tryz.isAgg3,
  z3 := Tryz.sizeOf3,
  v3 := Tryz.zeroValue3,
  t4 := Tryz.underlying4,
  a4 := Tryz.isAgg4,
  z4 := Tryz.sizeOf4,
  v4 := Tryz.zeroValue4,
  t5 := Tryz.underlying5,
  a5 := Tryz.isAgg5,
  z5 := Tryz.sizeOf5,
  v5 := Tryz.zeroValue5,
  t9 := Tryz.underlying9,
  a9 := Tryz.isAgg9,
  z9 := Tryz.sizeOf9,
  v9 := Tryz.zeroValue9,
  t22 := Tryz.underlying22,
  a22 := Tryz.isAgg22,
  z22 := Tryz.sizeOf22,
  v22 := Tryz.zeroValue22,
  t25 := Tryz.underlying186,
  a25 := Tryz.isAgg186,
  z25 := Tryz.sizeOf186,
  v25 := Tryz.zeroValue186,
  t39 := Tryz.underlying202,
  a39 := Tryz.isAgg202,
  z39 := Tryz.sizeOf202,
  v39 := Tryz.zeroValue202,
  t45 := Tryz.underlying263,
  a45 := Tryz.isAgg263,
  z45 := Tryz.sizeOf263,
  v45 := Tryz.zeroValue263,
  t46 := Tryz.underlying264,
  a46 := Tryz.isAgg264,
  z46 := Tryz.sizeOf264,
  v46 := Tryz.zeroValue264,
  t50 := Tryz.underlying163,
  a50 := Tryz.isAgg163,
  z50 := Tryz.sizeOf163,
  v50 := Tryz.zeroValue163,
  t53 := Tryz.underlying32,
  a53 := Tryz.isAgg32,
  z53 := Tryz.sizeOf32,
  v53 := Tryz.zeroValue32,
  t55 := Tryz.underlying27,
  a55 := Tryz.isAgg27,
  z55 := Tryz.sizeOf27,
  v55 := Tryz.zeroValue27,
  t66 := Tryz.underlying280,
  a66 := Tryz.isAgg280,
  z66 := Tryz.sizeOf280,
  v66 := Tryz.zeroValue280,
  t70 := Tryz.underlying284,
  a70 := Tryz.isAgg284,
  z70 := Tryz.sizeOf284,
  v70 := Tryz.zeroValue284,
  t76 := Tryz.underlying292,
  a76 := Tryz.isAgg292,
  z76 := Tryz.sizeOf292,
  v76 := Tryz.zeroValue292,
  t77 := Tryz.underlying293,
  a77 := Tryz.isAgg293,
  z77 := Tryz.sizeOf293,
  v77 := Tryz.zeroValue293 }

theorem cmpLs_congr {s s' t : List a6} (h : s.map bO = s'.map bO) : d6 s t = d6 s' t := by rw [gT, h, ← gT]
theorem cmpN_eq0 {a b : a6} (h : bR a b = 0) (c : a6) : bR a c = bR b c := cmpLs_congr (cmpLs_zero.1 h)
def hstP (x : Le) : Prop := x.e.host.length ≤ 1000000000
instance : Inhabited {x : Le // hstP x} := ⟨⟨bm, by show ([] : a6).length ≤ _; decide⟩⟩
theorem swo_en : Go.Sort.SWO (α := {x : Le // hstP x}) (Go.Proofs.ltOf fun x y : {x : Le // hstP x} => bR x.1.e.host y.1.e.host) where
  irrefl x := by simp only [ltOf, decide_eq_false_iff_not, cmpN_self]; omega
  trans x y z h1 h2 := by simp only [ltOf, decide_eq_true_eq] at *; exact ef h1 h2
  ntrans x y z h1 h2 := by
    simp only [ltOf, decide_eq_false_iff_not] at *
    intro h
    by_cases h0 : bR x.1.e.host y.1.e.host = 0
    · rw [cmpN_eq0 h0] at h; exact h2 h
    · have h3 := dM x.1.e.host y.1.e.host
      exact h2 (ef (show bR y.1.e.host x.1.e.host < 0 by omega) h)
theorem c_Sort_en (A : Option Addr) (c : Nat) (xs : List Le) (hl : xs.length ≤ 1000000) (hh : ∀ x ∈ xs, x.e.host.length ≤ 1000000000) : UC Tryz.prog 129 #[.slice A xs.length c, .func (.func 130) #[] #[]] [] (Ch.ls A c 34 7 dF xs) (α := {ys : List Le // ys.Perm xs ∧ ys.Pairwise fun a b => ¬ bR b.e.host a.e.host < 0}) (fun _ => .tuple #[]) (fun o => Ch.ls A c 34 7 dF o.1) :=
  uc_sort (p := hstP) sortEn 7 Tryz.isAgg34 Tryz.sizeOf34 bp (fun a b : Le => bR a.e.host b.e.host) swo_en 130 #[] (enters_of Tryz.func130 (by kernel_rfl) rfl) (fun x y h1 h2 => by rw [Array.append_empty]; exact c_tApply1 x y h1 h2) 34 A c xs hh (by omega)

end Go.Proofs.YtnpdgmoeoidppaaGreat
