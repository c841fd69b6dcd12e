import Derived.Test.YtnpdgmoeoidppaaPcQc
/- addresses, entries -/
namespace Go.Proofs.Ytnpdgmoeoidppaa
open Go.RowKit Go.Shelf
set_option linter.unusedVariables false
set_option linter.unusedSimpArgs false

theorem ent_119 : Enters Try.prog 119 := enters_of Try.func119 (by kernel_rfl) rfl
theorem ent_136 : Enters Try.prog 136 := enters_of Try.func136 (by kernel_rfl) rfl
theorem ent_138 : Enters Try.prog 138 := enters_of Try.func138 (by kernel_rfl) rfl
theorem ent_161 : Enters Try.prog 161 := enters_of Try.func161 (by kernel_rfl) rfl
theorem ent_174 : Enters Try.prog 174 := enters_of Try.func174 (by kernel_rfl) rfl
theorem ent_93 : Enters Try.prog 93 := enters_of Try.func93 (by kernel_rfl) rfl
theorem ent_94 : Enters Try.prog 94 := enters_of Try.func94 (by kernel_rfl) rfl
theorem db : FA Try.prog 44 0 0 := fun b o w => by kernel_rfl
theorem fa_44_1 : FA Try.prog 44 1 1 := fun b o w => by kernel_rfl
theorem gZ : FA Try.prog 44 2 2 := fun b o w => by kernel_rfl
theorem eF : FA Try.prog 44 3 3 := fun b o w => by kernel_rfl
theorem fD : FA Try.prog 44 4 4 := fun b o w => by kernel_rfl
theorem f9 : FA Try.prog 44 5 5 := fun b o w => by kernel_rfl
theorem fa_44_6 : FA Try.prog 44 6 6 := fun b o w => by kernel_rfl
theorem fa_62_0 : FA Try.prog 62 0 0 := fun b o w => by kernel_rfl
theorem fa_62_1 : FA Try.prog 62 1 1 := fun b o w => by kernel_rfl
theorem fa_62_2 : FA Try.prog 62 2 2 := fun b o w => by kernel_rfl
theorem ty_4 : TyI Try.prog 4 false 1 1 (.bool false) := TyI.mk' (by kernel_rfl) (fun _ => by kernel_rfl)
theorem g5 : TyI Try.prog 40 false 1 24 (.slice none 0 0) := TyI.mk' (by kernel_rfl) (fun _ => by kernel_rfl)
theorem ty_41 : TyI Try.prog 41 false 1 24 (.slice none 0 0) := TyI.mk' (by kernel_rfl) (fun _ => by kernel_rfl)
theorem ty_42 : TyI Try.prog 42 false 1 4 (.int .u32 0) := TyI.mk' (by kernel_rfl) (fun _ => by kernel_rfl)
theorem a7 : TyI Try.prog 44 true 7 112 (.agg #[.string ⟨#[]⟩, .int .i64 0, .string ⟨#[]⟩, .slice none 0 0, .string ⟨#[]⟩, .slice none 0 0, .int .u32 0]) := TyI.mk' (by kernel_rfl) (fun _ => by kernel_rfl)
theorem ty_60 : TyI Try.prog 60 false 1 8 (.int .u64 0) := TyI.mk' (by kernel_rfl) (fun _ => by kernel_rfl)
theorem fo : TyI Try.prog 62 true 3 24 (.agg #[.bool false, .int .u64 0, .int .u64 0]) := TyI.mk' (by kernel_rfl) (fun _ => by kernel_rfl)

/-- Addresses are compared field by field. -/
theorem eqd_ad (a b : Ad) : EqD Try.prog 2 62 (.agg (gS a).toArray) (.agg (gS b).toArray) (decide (a = b)) := by
  have h : EqD Try.prog 2 62 (.agg (gS a).toArray) (.agg (gS b).toArray) ((a.six == b.six) && ((a.hi == b.hi) && ((a.lo == b.lo) && true))) :=
    eqd_struct (n := 1) Try.underlying62 (by kernel_rfl) (eqf_cons (v := .bool a.six) (u := .bool b.six) (by kernel_rfl) (fun _ => by kernel_rfl) (fun _ => by kernel_rfl) (eqd_bool Try.underlying4) rfl (eqf_cons (v := .int .u64 a.hi) (u := .int .u64 b.hi) (by kernel_rfl) (fun _ => by kernel_rfl) (fun _ => by kernel_rfl) (eqd_int Try.underlying60) rfl (eqf_cons (v := .int .u64 a.lo) (u := .int .u64 b.lo) (by kernel_rfl) (fun _ => by kernel_rfl) (fun _ => by kernel_rfl) (eqd_int Try.underlying60) rfl eqf_nil)))
  have e : ((a.six == b.six) && ((a.hi == b.hi) && ((a.lo == b.lo) && true))) = decide (a = b) := by
    cases a; cases b
    rw [Bool.eq_iff_iff]
    simp
  rw [e] at h; exact h
theorem keyl_ad : KeyL Try.prog 62 (fun a : Ad => .agg (gS a).toArray) :=
  keyl_agg Try.underlying62 (fun e a w => by kernel_rfl) eqd_ad rfl (fun a => by simp [Instr.sameBits, gS])

theorem ck_six {a : Ad} (h : a.six = true) : fH a = 0 := by unfold fH; rw [if_neg (fun h2 => by rw [h] at h2; exact absurd h2.1 (by simp))]
theorem ck_bad {a : Ad} (h : a.six = false) (h2 : a.hi ≠ 0 ∨ 4294967296 ≤ a.lo) : fH a = 2 := by unfold fH; rw [if_pos ⟨h, h2⟩]
theorem ck_ok {a : Ad} (h : ¬ a.hi ≠ 0) (h2 : ¬ 4294967296 ≤ a.lo) : fH a = 0 := by unfold fH; rw [if_neg (fun h3 => by have := h3.2; omega)]

theorem c_addr_Check (a : Ad) (h0 : 0 ≤ a.lo) : d4 Try.prog 119 #[.agg (gS a).toArray] (.int .i64 (fH a)) := by
 intro w0
 refine bR (ok0 := no) (S := []) (args := [.agg (gS a).toArray]) 17 Try.func119 rfl rfl rfl (by simp) (by simp) ?_
 refine ap ?_
 refine ah ?_
 refine da rfl rfl rfl (fun b1 => ?_)
 refine au (aj rfl) rfl rfl ?_
 refine aa ?_
 refine am ?_
 refine ap ?_
 refine ap ?_
 refine ah ?_
 refine au (aR fa_62_0 rfl) rfl rfl ?_
 refine au (aN 0 ty_4 rfl rfl rfl) rfl rfl ?_
 refine b6 (t := 4) rfl (fun h1_1 => ?_) (fun h1_1 => ?_)
 refine au (cC rfl) rfl rfl ?_
 refine au (ak rfl) rfl rfl ?_
 refine aw rfl rfl rfl rfl ?_
 refine aw rfl rfl rfl rfl ?_
 refine aw rfl rfl rfl rfl ?_
 refine aw rfl rfl rfl rfl ?_
 refine cK rfl rfl rfl ?_
 refine cK rfl rfl rfl ?_
 refine cK rfl rfl rfl ?_
 refine cK rfl rfl rfl ?_
 refine aw rfl rfl rfl rfl ?_
 refine au (aT rfl rfl) rfl rfl ?_
 refine aa ?_
 refine am ?_
 refine aK rfl ?_
 refine aZ ?_
 refine am ?_
 refine ap ?_
 refine ah ?_
 refine au (aj rfl) rfl rfl ?_
 refine aa ?_
 refine am ?_
 refine aU ?_
 refine aX (ts := [2]) rfl rfl rfl (fun w hw => ?_)
 exact ⟨by rw [ck_six h1_1]; rfl, hw.base⟩
 refine au (cC rfl) rfl rfl ?_
 refine au (ak rfl) rfl rfl ?_
 refine av rfl rfl ?_
 refine au (aR fa_62_1 rfl) rfl rfl ?_
 refine av rfl rfl ?_
 refine au (aN 0 ty_60 rfl rfl rfl) rfl rfl ?_
 refine av rfl rfl ?_
 refine au (dA rfl rfl) rfl rfl ?_
 refine aG (t := 9) rfl (fun h1_6 => ?_) (fun h1_6 => ?_)
 refine av rfl rfl ?_
 refine au (ak rfl) rfl rfl ?_
 refine aw rfl rfl rfl rfl ?_
 refine aw rfl rfl rfl rfl ?_
 refine aw rfl rfl rfl rfl ?_
 refine aw rfl rfl rfl rfl ?_
 refine av rfl rfl ?_
 refine au (aF rfl rfl) rfl rfl ?_
 refine au (aF rfl rfl) rfl rfl ?_
 refine aa ?_
 refine am ?_
 refine aI rfl ?_
 refine ap ?_
 refine ah ?_
 refine au (aj rfl) rfl rfl ?_
 refine aa ?_
 refine am ?_
 refine aU ?_
 refine aA ?_
 refine aX (ts := [2]) rfl rfl rfl (fun w hw => ?_)
 exact ⟨by rw [ck_bad h1_1 (.inl h1_6)]; rfl, hw.base⟩
 refine av rfl rfl ?_
 refine au (ak rfl) rfl rfl ?_
 refine av rfl rfl ?_
 refine au (aR fa_62_2 rfl) rfl rfl ?_
 refine av rfl rfl ?_
 refine au (aN 0 ty_60 rfl rfl rfl) rfl rfl ?_
 refine av rfl rfl ?_
 refine au (y_shr rfl rfl (by omega)) rfl rfl ?_
 refine av rfl rfl ?_
 refine au (dA rfl rfl) rfl rfl ?_
 refine aG (t := 14) rfl (fun h1_11 => ?_) (fun h1_11 => ?_)
 refine av rfl rfl ?_
 refine au (aT rfl rfl) rfl rfl ?_
 refine au (aF rfl rfl) rfl rfl ?_
 refine aa ?_
 refine am ?_
 refine aI rfl ?_
 refine ap ?_
 refine ah ?_
 refine au (aj rfl) rfl rfl ?_
 refine aa ?_
 refine am ?_
 refine aU ?_
 refine aA ?_
 refine aX (ts := [2]) rfl rfl rfl (fun w hw => ?_)
 rw [shr32 h0] at h1_11
 exact ⟨by rw [ck_bad h1_1 (.inr h1_11)]; rfl, hw.base⟩
 refine av rfl rfl ?_
 refine au (aT rfl rfl) rfl rfl ?_
 refine au (aF rfl rfl) rfl rfl ?_
 refine aa ?_
 refine am ?_
 refine aK rfl ?_
 refine aZ ?_
 refine am ?_
 refine ap ?_
 refine ah ?_
 refine au (aj rfl) rfl rfl ?_
 refine aa ?_
 refine am ?_
 refine aU ?_
 refine aX (ts := [2]) rfl rfl rfl (fun w hw => ?_)
 rw [shr32 h0] at h1_11
 exact ⟨by rw [ck_ok h1_6 h1_11]; rfl, hw.base⟩

theorem fY {l : List Int} {k : Nat} (hk : k < l.length) (h : ¬ portOk l k) : gk l = false := by
  simp only [gk, Bool.and_eq_false_iff, decide_eq_false_iff_not]
  exact .inl fun h2 => h (h2 k hk)
theorem f8 {l : List Int} (h : ∀ i, i < l.length → portOk l i) : gk l = decide (l.length ≤ 8) := by
  rw [gk, decide_eq_true h, Bool.true_and]
theorem all_succ {p : Nat → Prop} {k : Nat} (h : ∀ i, i < k → p i) (hk : p k) : ∀ i, i < k + 1 → p i := fun i hi => by
  by_cases e : i = k
  · rw [e]; exact hk
  · exact h i (by omega)

theorem c_entry_ports (l : List Int) (B : Option Addr) (d : Nat) (hl : l.length ≤ 1000000000000) : RC Try.prog 93 #[.slice B l.length d] [Ch.rd B 1 fG l] (α := Unit) (fun _ => .bool (gk l)) (fun _ => []) := by
 refine bZ (args := [.slice B l.length d]) 35 Try.func93 rfl rfl rfl (fun w0 => ?_)
 refine ap ?_
 refine ah ?_
 refine au (aj rfl) rfl rfl ?_
 refine aa ?_
 refine am ?_
 refine ap ?_
 refine ap ?_
 refine ah ?_
 refine au (ak rfl) rfl rfl ?_
 refine au (bu Try.underlying41 rfl) rfl rfl ?_
 refine au (ak rfl) rfl rfl ?_
 refine aa ?_
 refine am ?_
 refine bk ?_
 refine dd (σ := Nat) [2, 3, 4, 7, 8, 9, 10, 11, 12, 13, 14, 15, 16, 17, 18, 19, 20, 21, 22, 23, 24, 25, 26, 27, 28, 29, 30, 31] (fun k => k ≤ l.length ∧ ∀ i, i < k → portOk l i) (fun k => l.length - k) (fun k => [(7, .int .i64 k)]) (0) ?_ ⟨rfl, trivial⟩ (fun k hI => ?_)
 exact ⟨Nat.zero_le _, nofun⟩
 refine ap ?_
 refine ah ?_
 refine au (cX rfl rfl) rfl rfl ?_
 refine aG (t := 8) rfl (fun h2_0 => ?_) (fun h2_0 => ?_)
 refine aa ?_
 refine am ?_
 refine ap ?_
 refine aI rfl ?_
 refine aZ ?_
 refine am ?_
 refine ap ?_
 refine bk ?_
 refine ap ?_
 refine ah ?_
 refine au (ak rfl) rfl rfl ?_
 refine au (co  Try.underlying41 d6 rfl rfl (cI 0 rfl) rfl (by omega)) rfl rfl ?_
 refine au (cP enc_i (0 : Int) d6 rfl (cI 0 rfl) (by omega) rfl rfl) rfl rfl ?_
 refine au (aj rfl) rfl rfl ?_
 refine au (aj rfl) rfl rfl ?_
 refine aa ?_
 refine am ?_
 refine ap ?_
 refine ah ?_
 refine au (ak rfl) rfl rfl ?_
 refine au (cX rfl rfl) rfl rfl ?_
 refine aG (t := 13) rfl (fun h4_1 => ?_) (fun h4_1 => ?_)
 refine au (ak rfl) rfl rfl ?_
 refine aw rfl rfl rfl rfl ?_
 refine aw rfl rfl rfl rfl ?_
 refine au (aF rfl rfl) rfl rfl ?_
 refine au (ak rfl) rfl rfl ?_
 refine aw rfl rfl rfl rfl ?_
 refine aw rfl rfl rfl rfl ?_
 refine aw rfl rfl rfl rfl ?_
 refine cK rfl rfl rfl ?_
 refine cK rfl rfl rfl ?_
 refine cK rfl rfl rfl ?_
 refine cK rfl rfl rfl ?_
 refine cK rfl rfl rfl ?_
 refine cK rfl rfl rfl ?_
 refine cK rfl rfl rfl ?_
 refine aw rfl rfl rfl rfl ?_
 refine au (aF rfl rfl) rfl rfl ?_
 refine aa ?_
 refine am ?_
 refine aI rfl ?_
 refine ap ?_
 refine ah ?_
 refine au (aj rfl) rfl rfl ?_
 refine aa ?_
 refine am ?_
 refine aU ?_
 refine aO ?_
 refine aA ?_
 refine bG ?_
 refine aO ?_
 refine aA ?_
 refine aX (ts := [2]) rfl rfl rfl (fun w hw => ?_)
 focus first
   | exact ⟨(), by rw [fY (k := k) (by omega) (fun h => by have h1 := h.1; have h2 := h.2.1; have h3 := h.2.2; omega)]; rfl, hw.base, hw.toNews⟩
   | (have hk : k = l.length := by omega
      subst hk
      exact ⟨(), by rw [f8 hI.2]; show Ending.returned (.bool _) = _; congr 2; rw [decide_eq_decide]; omega, hw.base, hw.toNews⟩)
 refine au (ak rfl) rfl rfl ?_
 refine av rfl rfl ?_
 refine au (ak rfl) rfl rfl ?_
 refine av rfl rfl ?_
 refine au (em rfl rfl) rfl rfl ?_
 refine aG (t := 16) rfl (fun h4_4 => ?_) (fun h4_4 => ?_)
 refine au (aT rfl rfl) rfl rfl ?_
 refine au (ak rfl) rfl rfl ?_
 refine aw rfl rfl rfl rfl ?_
 refine aw rfl rfl rfl rfl ?_
 refine aw rfl rfl rfl rfl ?_
 refine cK rfl rfl rfl ?_
 refine cK rfl rfl rfl ?_
 refine cK rfl rfl rfl ?_
 refine cK rfl rfl rfl ?_
 refine cK rfl rfl rfl ?_
 refine cK rfl rfl rfl ?_
 refine cK rfl rfl rfl ?_
 refine aw rfl rfl rfl rfl ?_
 refine au (aF rfl rfl) rfl rfl ?_
 refine aa ?_
 refine am ?_
 refine aI rfl ?_
 refine ap ?_
 refine ah ?_
 refine au (aj rfl) rfl rfl ?_
 refine aa ?_
 refine am ?_
 refine aU ?_
 refine aO ?_
 refine aA ?_
 refine bG ?_
 refine aO ?_
 refine aA ?_
 refine aX (ts := [2]) rfl rfl rfl (fun w hw => ?_)
 focus first
   | exact ⟨(), by rw [fY (k := k) (by omega) (fun h => by have h1 := h.1; have h2 := h.2.1; have h3 := h.2.2; omega)]; rfl, hw.base, hw.toNews⟩
   | (have hk : k = l.length := by omega
      subst hk
      exact ⟨(), by rw [f8 hI.2]; show Ending.returned (.bool _) = _; congr 2; rw [decide_eq_decide]; omega, hw.base, hw.toNews⟩)
 refine au (aT rfl rfl) rfl rfl ?_
 refine au (ak rfl) rfl rfl ?_
 refine av rfl rfl ?_
 refine au (ak rfl) rfl rfl ?_
 refine av rfl rfl ?_
 refine au (em rfl rfl) rfl rfl ?_
 refine aG (t := 20) rfl (fun h4_8 => ?_) (fun h4_8 => ?_)
 refine av rfl rfl ?_
 refine au (ak rfl) rfl rfl ?_
 refine av rfl rfl ?_
 refine au (ak rfl) rfl rfl ?_
 refine av rfl rfl ?_
 refine au (ak rfl) rfl rfl ?_
 refine av rfl rfl ?_
 refine au (eR rfl rfl (by omega) (by omega)) rfl rfl ?_
 refine av rfl rfl ?_
 refine au (co (k := k - 1) Try.underlying41 d6 rfl rfl (cI 0 rfl) (by omega) (by omega)) rfl rfl ?_
 refine av rfl rfl ?_
 refine au (cP enc_i (0 : Int) d6 rfl (cI 0 rfl) (by omega) rfl rfl) rfl rfl ?_
 refine av rfl rfl ?_
 refine au (ak rfl) rfl rfl ?_
 refine av rfl rfl ?_
 refine au (gV rfl rfl) rfl rfl ?_
 refine aG (t := 28) rfl (fun h4_16 => ?_) (fun h4_16 => ?_)
 refine av rfl rfl ?_
 refine au (aF rfl rfl) rfl rfl ?_
 refine au (aT rfl rfl) rfl rfl ?_
 refine aa ?_
 refine am ?_
 refine aI rfl ?_
 refine ap ?_
 refine ah ?_
 refine au (aj rfl) rfl rfl ?_
 refine aa ?_
 refine am ?_
 refine aU ?_
 refine aO ?_
 refine aA ?_
 refine bG ?_
 refine aO ?_
 refine aA ?_
 refine aX (ts := [2]) rfl rfl rfl (fun w hw => ?_)
 focus first
   | exact ⟨(), by rw [fY (k := k) (by omega) (fun h => by have h1 := h.1; have h2 := h.2.1; have h3 := h.2.2; omega)]; rfl, hw.base, hw.toNews⟩
   | (have hk : k = l.length := by omega
      subst hk
      exact ⟨(), by rw [f8 hI.2]; show Ending.returned (.bool _) = _; congr 2; rw [decide_eq_decide]; omega, hw.base, hw.toNews⟩)
 refine av rfl rfl ?_
 refine au (aF rfl rfl) rfl rfl ?_
 refine au (aT rfl rfl) rfl rfl ?_
 refine aa ?_
 refine am ?_
 refine aK rfl ?_
 refine aZ ?_
 refine bV ?_
 refine am ?_
 refine ah ?_
 refine au (cr rfl rfl (by omega) (by omega)) rfl rfl ?_
 refine au (ak rfl) rfl rfl ?_
 refine aa ?_
 refine cn (k + 1) ?_ ?_ ⟨rfl, trivial⟩ (by repeat (first | exact trivial | refine ⟨rfl, ?_⟩)) aD
 exact ⟨by omega, all_succ hI.2 ⟨by omega, by omega, fun _ => by omega⟩⟩
 omega
 refine av rfl rfl ?_
 refine au (ak rfl) rfl rfl ?_
 refine aw rfl rfl rfl rfl ?_
 refine aw rfl rfl rfl rfl ?_
 refine aw rfl rfl rfl rfl ?_
 refine aw rfl rfl rfl rfl ?_
 refine aw rfl rfl rfl rfl ?_
 refine aw rfl rfl rfl rfl ?_
 refine aw rfl rfl rfl rfl ?_
 refine av rfl rfl ?_
 refine au (aT rfl rfl) rfl rfl ?_
 refine au (aT rfl rfl) rfl rfl ?_
 refine aa ?_
 refine am ?_
 refine aK rfl ?_
 refine aZ ?_
 refine bV ?_
 refine am ?_
 refine ah ?_
 refine au (cr rfl rfl (by omega) (by omega)) rfl rfl ?_
 refine au (ak rfl) rfl rfl ?_
 refine aa ?_
 refine cn (k + 1) ?_ ?_ ⟨rfl, trivial⟩ (by repeat (first | exact trivial | refine ⟨rfl, ?_⟩)) aD
 exact ⟨by omega, all_succ hI.2 ⟨by omega, by omega, fun _ => by omega⟩⟩
 omega
 refine aa ?_
 refine am ?_
 refine ap ?_
 refine aK rfl ?_
 refine cB ?_
 refine bl ?_
 refine bq ?_
 refine bA ?_
 refine am ?_
 refine ap ?_
 refine ah ?_
 refine au (ak rfl) rfl rfl ?_
 refine au (bu Try.underlying41 rfl) rfl rfl ?_
 refine au (y_leq rfl rfl) rfl rfl ?_
 refine au (aj rfl) rfl rfl ?_
 refine aa ?_
 refine am ?_
 refine aU ?_
 refine aX (ts := [2]) rfl rfl rfl (fun w hw => ?_)
 focus first
   | exact ⟨(), by rw [fY (k := k) (by omega) (fun h => by have h1 := h.1; have h2 := h.2.1; have h3 := h.2.2; omega)]; rfl, hw.base, hw.toNews⟩
   | (have hk : k = l.length := by omega
      subst hk
      exact ⟨(), by rw [f8 hI.2]; show Ending.returned (.bool _) = _; congr 2; rw [decide_eq_decide]; omega, hw.base, hw.toNews⟩)

theorem lkp_upd {α β : Type} [DecidableEq α] (a b : α) (v : β) : ∀ m : List (α × β), lkp (upd m a v) b = if b = a then some v else lkp m b
  | [] => by simp [upd, lkp]
  | (c, u) :: r => by
    simp only [upd]
    by_cases h : a = c
    · subst h
      rw [if_pos rfl]
      simp only [lkp]
      by_cases hb : b = a <;> simp [hb]
    · rw [if_neg h]
      simp only [lkp, lkp_upd a b v r]
      by_cases hb : b = c
      · subst hb
        have : ¬ b = a := fun e => h e.symm
        simp [this]
      · simp [hb]
theorem ads_bad {l : List Ad} {k : Nat} (hk : k < l.length) (h : ¬ adOk l k) : adsOk l = false := by
  have : ¬ ∀ i, i < l.length → adOk l i := fun h2 => h (h2 k hk)
  rw [adsOk, decide_eq_false this]; rfl
theorem ads_end {l : List Ad} (h : ∀ i, i < l.length → adOk l i) : adsOk l = (decide (1 ≤ l.length) && decide (l.length ≤ 8)) := by
  rw [adsOk, decide_eq_true h, Bool.true_and]
theorem mem_take {l : List Ad} {k : Nat} (hk : k ≤ l.length) (a : Ad) : a ∈ l.take k ↔ ∃ j, j < k ∧ a = l.getD j ad0 := by
  rw [List.mem_take_iff_getElem]
  constructor
  · rintro ⟨i, h, e⟩
    exact ⟨i, by omega, by rw [← e]; simp [List.getD_eq_getElem?_getD, show i < l.length by omega]⟩
  · rintro ⟨j, h, e⟩
    exact ⟨j, by omega, by rw [e]; simp [List.getD_eq_getElem?_getD, show j < l.length by omega]⟩
/-- What the map of those that were seen holds. -/
def Seen (m : List (Ad × Bool)) (l : List Ad) (k : Nat) : Prop := ∀ a, lkp m a = if a ∈ l.take k then some true else none
theorem seen_zero (l : List Ad) : Seen [] l 0 := fun a => by simp [lkp]
theorem seen_succ {m : List (Ad × Bool)} {l : List Ad} {k : Nat} (h : Seen m l k) (hk : k < l.length) : Seen (upd m (l.getD k ad0) true) l (k + 1) := fun a => by
  rw [lkp_upd, h a, dE l ad0 k hk]
  by_cases e : a = l.getD k ad0
  · rw [if_pos e, if_pos (by simp only [List.mem_append, List.mem_singleton]; exact .inr e)]
  · rw [if_neg e]
    have h2 : (a ∈ l.take k ++ [l.getD k ad0]) ↔ a ∈ l.take k := by
      simp only [List.mem_append, List.mem_singleton]
      exact ⟨fun h => h.resolve_right e, .inl⟩
    simp only [h2]
theorem seen_val {m : List (Ad × Bool)} {l : List Ad} {k : Nat} (h : Seen m l k) (a : Ad) : ((lkp m a).map fun b : Bool => Value.bool b).getD (.bool false) = .bool (decide (a ∈ l.take k)) := by
  rw [h a]; split
  · rename_i h1; rw [decide_eq_true h1]; rfl
  · rename_i h1; rw [decide_eq_false h1]; rfl
theorem mem_getA {l : List Ad} {k : Nat} (h : k < l.length) : l.getD k ad0 ∈ l := bD h

theorem c_entry_addrs (l : List Ad) (A : Option Addr) (c : Nat) (hl : l.length ≤ 1000000000000) (hw0 : ∀ a ∈ l, 0 ≤ a.lo) : RC Try.prog 136 #[.slice A l.length c] [Ch.rd A 3 gS l] (α := Unit) (fun _ => .bool (adsOk l)) (fun _ => []) := by
 refine bZ (args := [.slice A l.length c]) 32 Try.func136 rfl rfl rfl (fun w0 => ?_)
 refine ap ?_
 refine ah ?_
 refine au (aj rfl) rfl rfl ?_
 refine aa ?_
 refine am ?_
 refine ap ?_
 refine ah ?_
 refine o_makeMap (fun a : Ad => .agg (gS a).toArray) (fun b : Bool => .bool b) rfl (fun r0 => ?_)
 refine au (aj rfl) rfl rfl ?_
 refine aa ?_
 refine am ?_
 refine ap ?_
 refine ap ?_
 refine ah ?_
 refine au (ak rfl) rfl rfl ?_
 refine au (bu Try.underlying40 rfl) rfl rfl ?_
 refine au (ak rfl) rfl rfl ?_
 refine aa ?_
 refine am ?_
 refine bk ?_
 refine dZ (σ := Nat × List (Ad × Bool)) [2, 5, 9, 10, 11, 12, 13, 14, 15, 16, 17, 18, 19, 20, 21, 22, 23] (fun q => q.1 ≤ l.length ∧ (∀ i, i < q.1 → adOk l i) ∧ Seen q.2 l q.1) (fun q => l.length - q.1) (fun q => [(9, .int .i64 q.1)]) (fun q => Ch.mp r0 (fun a : Ad => .agg (gS a).toArray) (fun b : Bool => .bool b) q.2) ((0, [])) ?_ ⟨rfl, trivial⟩ rfl (fun q hI => ?_)
 exact ⟨Nat.zero_le _, nofun, seen_zero l⟩
 obtain ⟨k, m⟩ := q
 obtain ⟨hk, hall, hseen⟩ := hI
 dsimp only at hk hall hseen ⊢
 refine ap ?_
 refine ah ?_
 refine au (cX rfl rfl) rfl rfl ?_
 refine aG (t := 10) rfl (fun h3_0 => ?_) (fun h3_0 => ?_)
 refine aa ?_
 refine am ?_
 refine ap ?_
 refine aI rfl ?_
 refine aZ ?_
 refine am ?_
 refine ap ?_
 refine bk ?_
 refine ap ?_
 refine ah ?_
 refine au (co  Try.underlying40 fo rfl rfl (cI 0 rfl) rfl (by omega)) rfl rfl ?_
 refine au (de enc_ad ad0 fo rfl (cI 0 rfl) (by omega) rfl rfl rfl) rfl rfl ?_
 refine bo fo rfl rfl (fun b2 => ?_)
 refine bf fo rfl rfl rfl .z rfl rfl rfl rfl ?_
 refine aa ?_
 refine am ?_
 refine ap ?_
 refine ap ?_
 refine ah ?_
 refine au (ak rfl) rfl rfl ?_
 refine au (bj 0 fo rfl rfl rfl rfl) rfl rfl ?_
 refine au (y_lookup Try.underlying222 keyl_ad ty_4 rfl rfl (fun w hw => hw.own _ (List.mem_of_getElem? (i := 1) rfl))) rfl rfl ?_
 refine du (t := 15) (.bool (decide (l.getD k ad0 ∈ l.take k))) rfl (seen_val hseen _) ?_
 refine b6 (t := 15) rfl (fun h5_2 => ?_) (fun h5_2 => ?_)
 refine au (ak rfl) rfl rfl ?_
 refine aw rfl rfl rfl rfl ?_
 refine aw rfl rfl rfl rfl ?_
 refine aw rfl rfl rfl rfl ?_
 refine au (aF rfl rfl) rfl rfl ?_
 refine aa ?_
 refine am ?_
 refine aI rfl ?_
 refine ap ?_
 refine ah ?_
 refine au (aj rfl) rfl rfl ?_
 refine aa ?_
 refine am ?_
 refine aU ?_
 refine aA ?_
 refine aO ?_
 refine aA ?_
 refine bG ?_
 refine aO ?_
 refine aA ?_
 refine aX (ts := [2]) rfl rfl rfl (fun w hw => ?_)
 have hb : adsOk l = false := ads_bad (k := k) (by omega) (fun h => by obtain ⟨j, hj, e⟩ := (mem_take hk _).1 (of_decide_eq_true h5_2); exact h.2 j hj e)
 exact ⟨(), by rw [hb]; rfl, hw.base, (hw.weak (List.nil_sublist _) (fun s hs => hs)).toNews⟩
 refine au (ak rfl) rfl rfl ?_
 refine av rfl rfl ?_
 refine au (bj 0 fo rfl rfl rfl rfl) rfl rfl ?_
 refine av rfl rfl ?_
 refine bL rfl ent_119 (c_addr_Check _ (hw0 _ (mem_getA (by omega)))) rfl ?_
 refine av rfl rfl ?_
 refine au (dA rfl rfl) rfl rfl ?_
 refine aG (t := 19) rfl (fun h5_6 => ?_) (fun h5_6 => ?_)
 refine au (aT rfl rfl) rfl rfl ?_
 refine aa ?_
 refine am ?_
 refine aI rfl ?_
 refine ap ?_
 refine ah ?_
 refine au (aj rfl) rfl rfl ?_
 refine aa ?_
 refine am ?_
 refine aU ?_
 refine aA ?_
 refine aO ?_
 refine aA ?_
 refine bG ?_
 refine aO ?_
 refine aA ?_
 refine aX (ts := [2]) rfl rfl rfl (fun w hw => ?_)
 have hb : adsOk l = false := ads_bad (k := k) (by omega) (fun h => h5_6 h.1)
 exact ⟨(), by rw [hb]; rfl, hw.base, (hw.weak (List.nil_sublist _) (fun s hs => hs)).toNews⟩
 refine au (aT rfl rfl) rfl rfl ?_
 refine aa ?_
 refine am ?_
 refine aK rfl ?_
 refine aZ ?_
 refine am ?_
 refine ah ?_
 refine au (ak rfl) rfl rfl ?_
 refine au (bj 0 fo rfl rfl rfl rfl) rfl rfl ?_
 refine o_mapUpd Try.underlying222 keyl_ad rfl rfl rfl (.s (.z)) ?_
 refine aa ?_
 refine bV ?_
 refine am ?_
 refine ah ?_
 refine au (cr rfl rfl (by omega) (by omega)) rfl rfl ?_
 refine au (ak rfl) rfl rfl ?_
 refine aa ?_
 refine cn ((k + 1, upd m (l.getD k ad0) true)) ?_ ?_ ⟨rfl, trivial⟩ (by repeat (first | exact trivial | refine ⟨rfl, ?_⟩)) (aJ 1)
 exact ⟨by show k + 1 ≤ _; omega, all_succ hall ⟨by omega, fun j hj e => of_decide_eq_false h5_2 ((mem_take (by omega) _).2 ⟨j, hj, e⟩)⟩, seen_succ hseen (by omega)⟩
 show l.length - (k + 1) < l.length - k
 omega
 refine aa ?_
 refine am ?_
 refine ap ?_
 refine aK rfl ?_
 refine cB ?_
 refine bl ?_
 refine bq ?_
 refine bA ?_
 refine am ?_
 refine ap ?_
 refine ah ?_
 refine au (ak rfl) rfl rfl ?_
 refine au (bu Try.underlying40 rfl) rfl rfl ?_
 refine au (gV rfl rfl) rfl rfl ?_
 refine aG (t := 26) rfl (fun h9_2 => ?_) (fun h9_2 => ?_)
 refine au (ak rfl) rfl rfl ?_
 refine av rfl rfl ?_
 refine au (ak rfl) rfl rfl ?_
 refine av rfl rfl ?_
 refine au (bu Try.underlying40 rfl) rfl rfl ?_
 refine av rfl rfl ?_
 refine au (y_leq rfl rfl) rfl rfl ?_
 refine au (aF rfl rfl) rfl rfl ?_
 refine au (aj rfl) rfl rfl ?_
 refine aa ?_
 refine am ?_
 refine aU ?_
 refine aX (ts := [2]) rfl rfl rfl (fun w hw => ?_)
 obtain rfl : k = l.length := by omega
 exact ⟨(), by rw [ads_end hall, decide_eq_true (by omega : 1 ≤ l.length)]; show Ending.returned (.bool _) = _; congr 2; rw [Bool.true_and, decide_eq_decide]; omega, hw.base, (hw.weak (List.nil_sublist _) (fun s hs => hs)).toNews⟩
 refine au (ak rfl) rfl rfl ?_
 refine aw rfl rfl rfl rfl ?_
 refine aw rfl rfl rfl rfl ?_
 refine aw rfl rfl rfl rfl ?_
 refine au (aT rfl rfl) rfl rfl ?_
 refine au (aj rfl) rfl rfl ?_
 refine aa ?_
 refine am ?_
 refine aU ?_
 refine aX (ts := [2]) rfl rfl rfl (fun w hw => ?_)
 obtain rfl : k = l.length := by omega
 exact ⟨(), by rw [ads_end hall, decide_eq_false (by omega : ¬ 1 ≤ l.length)]; rfl, hw.base, (hw.weak (List.nil_sublist _) (fun s hs => hs)).toNews⟩

theorem c_slHasPrefix (s t : aW) : d4 Try.prog 174 #[.string (ba s), .string (ba t)] (.bool (decide (t <+: s))) := by
 intro w0
 refine bR (ok0 := no) (S := []) (args := [.string (ba s), .string (ba t)]) 18 Try.func174 rfl rfl rfl (by simp) (by simp) ?_
 refine ap ?_
 refine ah ?_
 refine au (aj rfl) rfl rfl ?_
 refine aa ?_
 refine am ?_
 refine ap ?_
 refine ah ?_
 refine au (ak rfl) rfl rfl ?_
 refine au (eQ Try.underlying9 rfl) rfl rfl ?_
 refine au (ak rfl) rfl rfl ?_
 refine au (eQ Try.underlying9 rfl) rfl rfl ?_
 refine au (gV rfl rfl) rfl rfl ?_
 refine aG (t := 9) rfl (fun h1_4 => ?_) (fun h1_4 => ?_)
 refine au (ak rfl) rfl rfl ?_
 refine av rfl rfl ?_
 refine au (ak rfl) rfl rfl ?_
 refine av rfl rfl ?_
 refine au (ak rfl) rfl rfl ?_
 refine av rfl rfl ?_
 refine au (eQ Try.underlying9 rfl) rfl rfl ?_
 refine av rfl rfl ?_
 refine au (y_slices_hi (n := t.length) Try.underlying9 rfl rfl (by omega) (by omega)) rfl rfl ?_
 refine av rfl rfl ?_
 refine au (ak rfl) rfl rfl ?_
 refine av rfl rfl ?_
 refine au (d8 rfl rfl) rfl rfl ?_
 refine au (aF rfl rfl) rfl rfl ?_
 refine au (aj rfl) rfl rfl ?_
 refine aa ?_
 refine am ?_
 refine aU ?_
 refine aX (ts := [4]) rfl rfl rfl (fun w hw => ?_)
 refine ⟨?_, hw.base⟩
 show Ending.returned (.bool _) = _
 congr 2
 focus first
   | (rw [decide_eq_decide, List.prefix_iff_eq_take]; exact eq_comm)
   | (rw [decide_eq_false_iff_not]; intro h; have := h.length_le; omega)
   | (symm; rw [decide_eq_false_iff_not]; intro h; have := h.length_le; omega)
 refine au (ak rfl) rfl rfl ?_
 refine aw rfl rfl rfl rfl ?_
 refine aw rfl rfl rfl rfl ?_
 refine aw rfl rfl rfl rfl ?_
 refine aw rfl rfl rfl rfl ?_
 refine aw rfl rfl rfl rfl ?_
 refine aw rfl rfl rfl rfl ?_
 refine au (aT rfl rfl) rfl rfl ?_
 refine au (aj rfl) rfl rfl ?_
 refine aa ?_
 refine am ?_
 refine aU ?_
 refine aX (ts := [4]) rfl rfl rfl (fun w hw => ?_)
 refine ⟨?_, hw.base⟩
 show Ending.returned (.bool _) = _
 congr 2
 focus first
   | (rw [decide_eq_decide, List.prefix_iff_eq_take]; exact eq_comm)
   | (rw [decide_eq_false_iff_not]; intro h; have := h.length_le; omega)
   | (symm; rw [decide_eq_false_iff_not]; intro h; have := h.length_le; omega)

theorem c_HasPrefix (s t : aW) : d4 Try.prog 161 #[.string (ba s), .string (ba t)] (.bool (decide (t <+: s))) := by
 intro w0
 refine bR (ok0 := no) (S := []) (args := [.string (ba s), .string (ba t)]) 8 Try.func161 rfl rfl rfl (by simp) (by simp) ?_
 refine ap ?_
 refine ah ?_
 refine au (aj rfl) rfl rfl ?_
 refine aa ?_
 refine am ?_
 refine ap ?_
 refine ah ?_
 refine au (ak rfl) rfl rfl ?_
 refine au (ak rfl) rfl rfl ?_
 refine bL rfl ent_174 (c_slHasPrefix _ _) rfl ?_
 refine au (aj rfl) rfl rfl ?_
 refine aa ?_
 refine am ?_
 refine aU ?_
 refine aX (ts := [4]) rfl rfl rfl (fun w hw => ?_)
 exact ⟨rfl, hw.base⟩

theorem c_name_Wild (n : aW) : d4 Try.prog 138 #[.string (ba n)] (.bool (wildN n)) := by
 intro w0
 refine bR (ok0 := no) (S := []) (args := [.string (ba n)]) 10 Try.func138 rfl rfl rfl (by simp) (by simp) ?_
 refine ap ?_
 refine ah ?_
 refine au (aj rfl) rfl rfl ?_
 refine aa ?_
 refine am ?_
 refine ap ?_
 refine ah ?_
 refine au (ak rfl) rfl rfl ?_
 refine bL rfl ent_56 (dF _) rfl ?_
 refine au (bW rfl rfl) rfl rfl ?_
 refine aG (t := 5) rfl (fun h1_2 => ?_) (fun h1_2 => ?_)
 refine au (ak rfl) rfl rfl ?_
 refine av rfl rfl ?_
 refine au (ak rfl) rfl rfl ?_
 refine av rfl rfl ?_
 refine bL rfl ent_161 (c_HasPrefix _ [1, 42]) rfl ?_
 refine au (aF rfl rfl) rfl rfl ?_
 refine au (aj rfl) rfl rfl ?_
 refine aa ?_
 refine am ?_
 refine aU ?_
 refine aX (ts := [2]) rfl rfl rfl (fun w hw => ?_)
 refine ⟨?_, hw.base⟩
 show Ending.returned (.bool _) = _
 congr 2
 focus first
   | (rw [wildN, decide_eq_true (by omega : bi n = 0), Bool.true_and])
   | (rw [wildN, decide_eq_false (by omega : ¬ bi n = 0)]; rfl)
 refine au (ak rfl) rfl rfl ?_
 refine aw rfl rfl rfl rfl ?_
 refine aw rfl rfl rfl rfl ?_
 refine au (aT rfl rfl) rfl rfl ?_
 refine au (aj rfl) rfl rfl ?_
 refine aa ?_
 refine am ?_
 refine aU ?_
 refine aX (ts := [2]) rfl rfl rfl (fun w hw => ?_)
 refine ⟨?_, hw.base⟩
 show Ending.returned (.bool _) = _
 congr 2
 focus first
   | (rw [wildN, decide_eq_true (by omega : bi n = 0), Bool.true_and])
   | (rw [wildN, decide_eq_false (by omega : ¬ bi n = 0)]; rfl)

theorem c_entry_may (e : En) (A B : Option Addr) (c d : Nat) (hwa : ∀ a ∈ e.addrs, 0 ≤ a.lo) (hla : e.addrs.length ≤ 1000000000000) (hlp : e.ports.length ≤ 1000000000000) (hk : -9223372036854775808 ≤ e.kind ∧ e.kind ≤ 9223372036854775807) : RC Try.prog 94 #[.agg (enC e A B c d).toArray] [Ch.rd A 3 gS e.addrs, Ch.rd B 1 fG e.ports] (α := Unit) (fun _ => .bool (a8 e)) (fun _ => []) := by
 refine bZ (args := [.agg (enC e A B c d).toArray]) 63 Try.func94 rfl rfl rfl (fun w0 => ?_)
 refine ap ?_
 refine ah ?_
 refine da rfl rfl rfl (fun b1 => ?_)
 refine au (aj rfl) rfl rfl ?_
 refine aa ?_
 refine am ?_
 refine ap ?_
 refine ap ?_
 refine ah ?_
 refine au (aR fa_44_1 rfl) rfl rfl ?_
 refine au (aN 0 d6 rfl rfl rfl) rfl rfl ?_
 refine aa ?_
 refine am ?_
 refine bk ?_
 refine ap ?_
 refine bk ?_
 refine ap ?_
 refine bk ?_
 refine ap ?_
 refine bk ?_
 refine ap ?_
 refine ap ?_
 refine ap ?_
 refine ah ?_
 refine au (bW rfl rfl) rfl rfl ?_
 refine aG (t := 6) rfl (fun h2_0 => ?_) (fun h2_0 => ?_)
 refine au (aj rfl) rfl rfl ?_
 refine aa ?_
 refine am ?_
 refine aI rfl ?_
 refine cB ?_
 refine bl ?_
 refine bl ?_
 refine bA ?_
 refine am ?_
 refine ap ?_
 refine ap ?_
 refine ah ?_
 refine au (aR eF rfl) rfl rfl ?_
 refine au (aN 0 g5 rfl rfl rfl) rfl rfl ?_
 refine aS rfl ent_136 rfl (c_entry_addrs _ _ _ (by omega) hwa) (fun w hw => (ao (cW 0 rfl hw) aM)) ?_
 refine b6 (t := 13) rfl (fun h5_2 => ?_) (fun h5_2 => ?_)
 refine au (cC rfl) rfl rfl ?_
 refine aa ?_
 refine am ?_
 refine aK rfl ?_
 refine aZ ?_
 refine am ?_
 refine ah ?_
 refine au (aR eF rfl) rfl rfl ?_
 refine bf g5 rfl rfl rfl .z rfl rfl rfl rfl ?_
 refine aa ?_
 refine bV ?_
 refine am ?_
 refine ap ?_
 refine ap ?_
 refine ah ?_
 refine au (aR eF rfl) rfl rfl ?_
 refine au (aN 0 g5 rfl rfl rfl) rfl rfl ?_
 refine au (bu Try.underlying40 rfl) rfl rfl ?_
 refine au (bW rfl rfl) rfl rfl ?_
 refine aG (t := 19) rfl (fun h8_3 => ?_) (fun h8_3 => ?_)
 refine au (ak rfl) rfl rfl ?_
 refine av rfl rfl ?_
 refine au (aR fD rfl) rfl rfl ?_
 refine av rfl rfl ?_
 refine au (aN 0 bN rfl rfl rfl) rfl rfl ?_
 refine av rfl rfl ?_
 refine au (d8 rfl rfl) rfl rfl ?_
 refine aG (t := 23) rfl (fun h8_7 => ?_) (fun h8_7 => ?_)
 refine au (aF rfl rfl) rfl rfl ?_
 refine au (ak rfl) rfl rfl ?_
 refine av rfl rfl ?_
 refine au (aR gZ rfl) rfl rfl ?_
 refine av rfl rfl ?_
 refine au (aN 0 bK rfl rfl rfl) rfl rfl ?_
 refine av rfl rfl ?_
 refine bL rfl ent_137 (fb _) rfl ?_
 refine av rfl rfl ?_
 refine au (bW rfl rfl) rfl rfl ?_
 refine au (aF rfl rfl) rfl rfl ?_
 refine au (aj rfl) rfl rfl ?_
 refine aa ?_
 refine am ?_
 refine aU ?_
 refine aA ?_
 refine aO ?_
 refine aA ?_
 refine aO ?_
 refine aA ?_
 refine aX (ts := [2]) rfl rfl rfl (fun w hw => ?_)
 refine ⟨(), ?_, hw.base, (hw.weak (List.nil_sublist _) (fun s hs => hs)).toNews⟩
 show Ending.returned (.bool _) = _
 congr 2
 focus first
   | (exfalso; omega)
   | (simp [a8, *]
      done)
   | (have q0 : e.addrs = [] := List.length_eq_zero_iff.1 (by omega)
      simp [a8, *]
      done)
   | (have q0 : ¬ e.addrs = [] := by
        intro h; have h9 := congrArg List.length h; rw [List.length_nil] at h9; omega
      simp [a8, *]
      done)
   | (have q0 : e.ports = [] := List.length_eq_zero_iff.1 (by omega)
      simp [a8, *]
      done)
   | (have q0 : ¬ e.ports = [] := by
        intro h; have h9 := congrArg List.length h; rw [List.length_nil] at h9; omega
      simp [a8, *]
      done)
   | (have q0 : e.addrs = [] := List.length_eq_zero_iff.1 (by omega)
      have q1 : e.ports = [] := List.length_eq_zero_iff.1 (by omega)
      simp [a8, *]
      done)
   | (have q0 : e.addrs = [] := List.length_eq_zero_iff.1 (by omega)
      have q1 : ¬ e.ports = [] := by
        intro h; have h9 := congrArg List.length h; rw [List.length_nil] at h9; omega
      simp [a8, *]
      done)
   | (have q0 : ¬ e.addrs = [] := by
        intro h; have h9 := congrArg List.length h; rw [List.length_nil] at h9; omega
      have q1 : e.ports = [] := List.length_eq_zero_iff.1 (by omega)
      simp [a8, *]
      done)
   | (have q0 : ¬ e.addrs = [] := by
        intro h; have h9 := congrArg List.length h; rw [List.length_nil] at h9; omega
      have q1 : ¬ e.ports = [] := by
        intro h; have h9 := congrArg List.length h; rw [List.length_nil] at h9; omega
      simp [a8, *]
      done)
   | (trace_state; fail)
 refine au (aF rfl rfl) rfl rfl ?_
 refine au (ak rfl) rfl rfl ?_
 refine aw rfl rfl rfl rfl ?_
 refine aw rfl rfl rfl rfl ?_
 refine aw rfl rfl rfl rfl ?_
 refine aw rfl rfl rfl rfl ?_
 refine au (aT rfl rfl) rfl rfl ?_
 refine au (aj rfl) rfl rfl ?_
 refine aa ?_
 refine am ?_
 refine aU ?_
 refine aA ?_
 refine aO ?_
 refine aA ?_
 refine aO ?_
 refine aA ?_
 refine aX (ts := [2]) rfl rfl rfl (fun w hw => ?_)
 refine ⟨(), ?_, hw.base, (hw.weak (List.nil_sublist _) (fun s hs => hs)).toNews⟩
 show Ending.returned (.bool _) = _
 congr 2
 focus first
   | (exfalso; omega)
   | (simp [a8, *]
      done)
   | (have q0 : e.addrs = [] := List.length_eq_zero_iff.1 (by omega)
      simp [a8, *]
      done)
   | (have q0 : ¬ e.addrs = [] := by
        intro h; have h9 := congrArg List.length h; rw [List.length_nil] at h9; omega
      simp [a8, *]
      done)
   | (have q0 : e.ports = [] := List.length_eq_zero_iff.1 (by omega)
      simp [a8, *]
      done)
   | (have q0 : ¬ e.ports = [] := by
        intro h; have h9 := congrArg List.length h; rw [List.length_nil] at h9; omega
      simp [a8, *]
      done)
   | (have q0 : e.addrs = [] := List.length_eq_zero_iff.1 (by omega)
      have q1 : e.ports = [] := List.length_eq_zero_iff.1 (by omega)
      simp [a8, *]
      done)
   | (have q0 : e.addrs = [] := List.length_eq_zero_iff.1 (by omega)
      have q1 : ¬ e.ports = [] := by
        intro h; have h9 := congrArg List.length h; rw [List.length_nil] at h9; omega
      simp [a8, *]
      done)
   | (have q0 : ¬ e.addrs = [] := by
        intro h; have h9 := congrArg List.length h; rw [List.length_nil] at h9; omega
      have q1 : e.ports = [] := List.length_eq_zero_iff.1 (by omega)
      simp [a8, *]
      done)
   | (have q0 : ¬ e.addrs = [] := by
        intro h; have h9 := congrArg List.length h; rw [List.length_nil] at h9; omega
      have q1 : ¬ e.ports = [] := by
        intro h; have h9 := congrArg List.length h; rw [List.length_nil] at h9; omega
      simp [a8, *]
      done)
   | (trace_state; fail)
 refine au (ak rfl) rfl rfl ?_
 refine aw rfl rfl rfl rfl ?_
 refine aw rfl rfl rfl rfl ?_
 refine aw rfl rfl rfl rfl ?_
 refine au (aT rfl rfl) rfl rfl ?_
 refine au (ak rfl) rfl rfl ?_
 refine aw rfl rfl rfl rfl ?_
 refine aw rfl rfl rfl rfl ?_
 refine aw rfl rfl rfl rfl ?_
 refine aw rfl rfl rfl rfl ?_
 refine au (aT rfl rfl) rfl rfl ?_
 refine au (aj rfl) rfl rfl ?_
 refine aa ?_
 refine am ?_
 refine aU ?_
 refine aA ?_
 refine aO ?_
 refine aA ?_
 refine aO ?_
 refine aA ?_
 refine aX (ts := [2]) rfl rfl rfl (fun w hw => ?_)
 refine ⟨(), ?_, hw.base, (hw.weak (List.nil_sublist _) (fun s hs => hs)).toNews⟩
 show Ending.returned (.bool _) = _
 congr 2
 focus first
   | (exfalso; omega)
   | (simp [a8, *]
      done)
   | (have q0 : e.addrs = [] := List.length_eq_zero_iff.1 (by omega)
      simp [a8, *]
      done)
   | (have q0 : ¬ e.addrs = [] := by
        intro h; have h9 := congrArg List.length h; rw [List.length_nil] at h9; omega
      simp [a8, *]
      done)
   | (have q0 : e.ports = [] := List.length_eq_zero_iff.1 (by omega)
      simp [a8, *]
      done)
   | (have q0 : ¬ e.ports = [] := by
        intro h; have h9 := congrArg List.length h; rw [List.length_nil] at h9; omega
      simp [a8, *]
      done)
   | (have q0 : e.addrs = [] := List.length_eq_zero_iff.1 (by omega)
      have q1 : e.ports = [] := List.length_eq_zero_iff.1 (by omega)
      simp [a8, *]
      done)
   | (have q0 : e.addrs = [] := List.length_eq_zero_iff.1 (by omega)
      have q1 : ¬ e.ports = [] := by
        intro h; have h9 := congrArg List.length h; rw [List.length_nil] at h9; omega
      simp [a8, *]
      done)
   | (have q0 : ¬ e.addrs = [] := by
        intro h; have h9 := congrArg List.length h; rw [List.length_nil] at h9; omega
      have q1 : e.ports = [] := List.length_eq_zero_iff.1 (by omega)
      simp [a8, *]
      done)
   | (have q0 : ¬ e.addrs = [] := by
        intro h; have h9 := congrArg List.length h; rw [List.length_nil] at h9; omega
      have q1 : ¬ e.ports = [] := by
        intro h; have h9 := congrArg List.length h; rw [List.length_nil] at h9; omega
      simp [a8, *]
      done)
   | (trace_state; fail)
 refine au (cC rfl) rfl rfl ?_
 refine aa ?_
 refine am ?_
 refine aI rfl ?_
 refine ap ?_
 refine ah ?_
 refine au (aj rfl) rfl rfl ?_
 refine aa ?_
 refine am ?_
 refine aU ?_
 refine aA ?_
 refine aO ?_
 refine aA ?_
 refine aO ?_
 refine aA ?_
 refine aO ?_
 refine aA ?_
 refine aX (ts := [2]) rfl rfl rfl (fun w hw => ?_)
 refine ⟨(), ?_, hw.base, (hw.weak (List.nil_sublist _) (fun s hs => hs)).toNews⟩
 show Ending.returned (.bool _) = _
 congr 2
 focus first
   | (exfalso; omega)
   | (simp [a8, *]
      done)
   | (have q0 : e.addrs = [] := List.length_eq_zero_iff.1 (by omega)
      simp [a8, *]
      done)
   | (have q0 : ¬ e.addrs = [] := by
        intro h; have h9 := congrArg List.length h; rw [List.length_nil] at h9; omega
      simp [a8, *]
      done)
   | (have q0 : e.ports = [] := List.length_eq_zero_iff.1 (by omega)
      simp [a8, *]
      done)
   | (have q0 : ¬ e.ports = [] := by
        intro h; have h9 := congrArg List.length h; rw [List.length_nil] at h9; omega
      simp [a8, *]
      done)
   | (have q0 : e.addrs = [] := List.length_eq_zero_iff.1 (by omega)
      have q1 : e.ports = [] := List.length_eq_zero_iff.1 (by omega)
      simp [a8, *]
      done)
   | (have q0 : e.addrs = [] := List.length_eq_zero_iff.1 (by omega)
      have q1 : ¬ e.ports = [] := by
        intro h; have h9 := congrArg List.length h; rw [List.length_nil] at h9; omega
      simp [a8, *]
      done)
   | (have q0 : ¬ e.addrs = [] := by
        intro h; have h9 := congrArg List.length h; rw [List.length_nil] at h9; omega
      have q1 : e.ports = [] := List.length_eq_zero_iff.1 (by omega)
      simp [a8, *]
      done)
   | (have q0 : ¬ e.addrs = [] := by
        intro h; have h9 := congrArg List.length h; rw [List.length_nil] at h9; omega
      have q1 : ¬ e.ports = [] := by
        intro h; have h9 := congrArg List.length h; rw [List.length_nil] at h9; omega
      simp [a8, *]
      done)
   | (trace_state; fail)
 refine au (aj rfl) rfl rfl ?_
 refine aa ?_
 refine am ?_
 refine aK rfl ?_
 refine aZ ?_
 refine am ?_
 refine ap ?_
 refine ap ?_
 refine ah ?_
 refine au (bW rfl rfl) rfl rfl ?_
 refine aG (t := 8) rfl (fun h3_0 => ?_) (fun h3_0 => ?_)
 refine au (aj rfl) rfl rfl ?_
 refine aa ?_
 refine am ?_
 refine aI rfl ?_
 refine cB ?_
 refine bl ?_
 refine bl ?_
 refine dQ rfl ?_
 refine bl ?_
 refine bA ?_
 refine am ?_
 refine ap ?_
 refine ap ?_
 refine ah ?_
 refine au (aR eF rfl) rfl rfl ?_
 refine au (aN 0 g5 rfl rfl rfl) rfl rfl ?_
 refine au (bu Try.underlying40 rfl) rfl rfl ?_
 refine au (bW rfl rfl) rfl rfl ?_
 refine aG (t := 19) rfl (fun h8_3 => ?_) (fun h8_3 => ?_)
 refine au (ak rfl) rfl rfl ?_
 refine av rfl rfl ?_
 refine au (aR fD rfl) rfl rfl ?_
 refine av rfl rfl ?_
 refine au (aN 0 bN rfl rfl rfl) rfl rfl ?_
 refine av rfl rfl ?_
 refine au (d8 rfl rfl) rfl rfl ?_
 refine aG (t := 23) rfl (fun h8_7 => ?_) (fun h8_7 => ?_)
 refine au (aF rfl rfl) rfl rfl ?_
 refine au (ak rfl) rfl rfl ?_
 refine av rfl rfl ?_
 refine au (aR gZ rfl) rfl rfl ?_
 refine av rfl rfl ?_
 refine au (aN 0 bK rfl rfl rfl) rfl rfl ?_
 refine av rfl rfl ?_
 refine bL rfl ent_137 (fb _) rfl ?_
 refine av rfl rfl ?_
 refine au (bW rfl rfl) rfl rfl ?_
 refine au (aF rfl rfl) rfl rfl ?_
 refine au (aj rfl) rfl rfl ?_
 refine aa ?_
 refine am ?_
 refine aU ?_
 refine aA ?_
 refine aO ?_
 refine aA ?_
 refine aO ?_
 refine aA ?_
 refine aX (ts := [2]) rfl rfl rfl (fun w hw => ?_)
 refine ⟨(), ?_, hw.base, (hw.weak (List.nil_sublist _) (fun s hs => hs)).toNews⟩
 show Ending.returned (.bool _) = _
 congr 2
 focus first
   | (exfalso; omega)
   | (simp [a8, *]
      done)
   | (have q0 : e.addrs = [] := List.length_eq_zero_iff.1 (by omega)
      simp [a8, *]
      done)
   | (have q0 : ¬ e.addrs = [] := by
        intro h; have h9 := congrArg List.length h; rw [List.length_nil] at h9; omega
      simp [a8, *]
      done)
   | (have q0 : e.ports = [] := List.length_eq_zero_iff.1 (by omega)
      simp [a8, *]
      done)
   | (have q0 : ¬ e.ports = [] := by
        intro h; have h9 := congrArg List.length h; rw [List.length_nil] at h9; omega
      simp [a8, *]
      done)
   | (have q0 : e.addrs = [] := List.length_eq_zero_iff.1 (by omega)
      have q1 : e.ports = [] := List.length_eq_zero_iff.1 (by omega)
      simp [a8, *]
      done)
   | (have q0 : e.addrs = [] := List.length_eq_zero_iff.1 (by omega)
      have q1 : ¬ e.ports = [] := by
        intro h; have h9 := congrArg List.length h; rw [List.length_nil] at h9; omega
      simp [a8, *]
      done)
   | (have q0 : ¬ e.addrs = [] := by
        intro h; have h9 := congrArg List.length h; rw [List.length_nil] at h9; omega
      have q1 : e.ports = [] := List.length_eq_zero_iff.1 (by omega)
      simp [a8, *]
      done)
   | (have q0 : ¬ e.addrs = [] := by
        intro h; have h9 := congrArg List.length h; rw [List.length_nil] at h9; omega
      have q1 : ¬ e.ports = [] := by
        intro h; have h9 := congrArg List.length h; rw [List.length_nil] at h9; omega
      simp [a8, *]
      done)
   | (trace_state; fail)
 refine au (aF rfl rfl) rfl rfl ?_
 refine au (ak rfl) rfl rfl ?_
 refine aw rfl rfl rfl rfl ?_
 refine aw rfl rfl rfl rfl ?_
 refine aw rfl rfl rfl rfl ?_
 refine aw rfl rfl rfl rfl ?_
 refine au (aT rfl rfl) rfl rfl ?_
 refine au (aj rfl) rfl rfl ?_
 refine aa ?_
 refine am ?_
 refine aU ?_
 refine aA ?_
 refine aO ?_
 refine aA ?_
 refine aO ?_
 refine aA ?_
 refine aX (ts := [2]) rfl rfl rfl (fun w hw => ?_)
 refine ⟨(), ?_, hw.base, (hw.weak (List.nil_sublist _) (fun s hs => hs)).toNews⟩
 show Ending.returned (.bool _) = _
 congr 2
 focus first
   | (exfalso; omega)
   | (simp [a8, *]
      done)
   | (have q0 : e.addrs = [] := List.length_eq_zero_iff.1 (by omega)
      simp [a8, *]
      done)
   | (have q0 : ¬ e.addrs = [] := by
        intro h; have h9 := congrArg List.length h; rw [List.length_nil] at h9; omega
      simp [a8, *]
      done)
   | (have q0 : e.ports = [] := List.length_eq_zero_iff.1 (by omega)
      simp [a8, *]
      done)
   | (have q0 : ¬ e.ports = [] := by
        intro h; have h9 := congrArg List.length h; rw [List.length_nil] at h9; omega
      simp [a8, *]
      done)
   | (have q0 : e.addrs = [] := List.length_eq_zero_iff.1 (by omega)
      have q1 : e.ports = [] := List.length_eq_zero_iff.1 (by omega)
      simp [a8, *]
      done)
   | (have q0 : e.addrs = [] := List.length_eq_zero_iff.1 (by omega)
      have q1 : ¬ e.ports = [] := by
        intro h; have h9 := congrArg List.length h; rw [List.length_nil] at h9; omega
      simp [a8, *]
      done)
   | (have q0 : ¬ e.addrs = [] := by
        intro h; have h9 := congrArg List.length h; rw [List.length_nil] at h9; omega
      have q1 : e.ports = [] := List.length_eq_zero_iff.1 (by omega)
      simp [a8, *]
      done)
   | (have q0 : ¬ e.addrs = [] := by
        intro h; have h9 := congrArg List.length h; rw [List.length_nil] at h9; omega
      have q1 : ¬ e.ports = [] := by
        intro h; have h9 := congrArg List.length h; rw [List.length_nil] at h9; omega
      simp [a8, *]
      done)
   | (trace_state; fail)
 refine au (ak rfl) rfl rfl ?_
 refine aw rfl rfl rfl rfl ?_
 refine aw rfl rfl rfl rfl ?_
 refine aw rfl rfl rfl rfl ?_
 refine au (aT rfl rfl) rfl rfl ?_
 refine au (ak rfl) rfl rfl ?_
 refine aw rfl rfl rfl rfl ?_
 refine aw rfl rfl rfl rfl ?_
 refine aw rfl rfl rfl rfl ?_
 refine aw rfl rfl rfl rfl ?_
 refine au (aT rfl rfl) rfl rfl ?_
 refine au (aj rfl) rfl rfl ?_
 refine aa ?_
 refine am ?_
 refine aU ?_
 refine aA ?_
 refine aO ?_
 refine aA ?_
 refine aO ?_
 refine aA ?_
 refine aX (ts := [2]) rfl rfl rfl (fun w hw => ?_)
 refine ⟨(), ?_, hw.base, (hw.weak (List.nil_sublist _) (fun s hs => hs)).toNews⟩
 show Ending.returned (.bool _) = _
 congr 2
 focus first
   | (exfalso; omega)
   | (simp [a8, *]
      done)
   | (have q0 : e.addrs = [] := List.length_eq_zero_iff.1 (by omega)
      simp [a8, *]
      done)
   | (have q0 : ¬ e.addrs = [] := by
        intro h; have h9 := congrArg List.length h; rw [List.length_nil] at h9; omega
      simp [a8, *]
      done)
   | (have q0 : e.ports = [] := List.length_eq_zero_iff.1 (by omega)
      simp [a8, *]
      done)
   | (have q0 : ¬ e.ports = [] := by
        intro h; have h9 := congrArg List.length h; rw [List.length_nil] at h9; omega
      simp [a8, *]
      done)
   | (have q0 : e.addrs = [] := List.length_eq_zero_iff.1 (by omega)
      have q1 : e.ports = [] := List.length_eq_zero_iff.1 (by omega)
      simp [a8, *]
      done)
   | (have q0 : e.addrs = [] := List.length_eq_zero_iff.1 (by omega)
      have q1 : ¬ e.ports = [] := by
        intro h; have h9 := congrArg List.length h; rw [List.length_nil] at h9; omega
      simp [a8, *]
      done)
   | (have q0 : ¬ e.addrs = [] := by
        intro h; have h9 := congrArg List.length h; rw [List.length_nil] at h9; omega
      have q1 : e.ports = [] := List.length_eq_zero_iff.1 (by omega)
      simp [a8, *]
      done)
   | (have q0 : ¬ e.addrs = [] := by
        intro h; have h9 := congrArg List.length h; rw [List.length_nil] at h9; omega
      have q1 : ¬ e.ports = [] := by
        intro h; have h9 := congrArg List.length h; rw [List.length_nil] at h9; omega
      simp [a8, *]
      done)
   | (trace_state; fail)
 refine au (aj rfl) rfl rfl ?_
 refine aa ?_
 refine am ?_
 refine aK rfl ?_
 refine aZ ?_
 refine am ?_
 refine ap ?_
 refine ah ?_
 refine au (bW rfl rfl) rfl rfl ?_
 refine aG (t := 10) rfl (fun h4_0 => ?_) (fun h4_0 => ?_)
 refine au (aj rfl) rfl rfl ?_
 refine aa ?_
 refine am ?_
 refine aI rfl ?_
 refine cB ?_
 refine bl ?_
 refine dQ rfl ?_
 refine bl ?_
 refine dQ rfl ?_
 refine bl ?_
 refine bA ?_
 refine am ?_
 refine ap ?_
 refine ap ?_
 refine ah ?_
 refine au (aR eF rfl) rfl rfl ?_
 refine au (aN 0 g5 rfl rfl rfl) rfl rfl ?_
 refine au (bu Try.underlying40 rfl) rfl rfl ?_
 refine au (bW rfl rfl) rfl rfl ?_
 refine aG (t := 34) rfl (fun h9_3 => ?_) (fun h9_3 => ?_)
 refine au (ak rfl) rfl rfl ?_
 refine av rfl rfl ?_
 refine au (aR f9 rfl) rfl rfl ?_
 refine av rfl rfl ?_
 refine au (aN 0 ty_41 rfl rfl rfl) rfl rfl ?_
 refine av rfl rfl ?_
 refine au (bu Try.underlying41 rfl) rfl rfl ?_
 refine av rfl rfl ?_
 refine au (bW rfl rfl) rfl rfl ?_
 refine aG (t := 39) rfl (fun h9_8 => ?_) (fun h9_8 => ?_)
 refine au (aF rfl rfl) rfl rfl ?_
 refine au (ak rfl) rfl rfl ?_
 refine av rfl rfl ?_
 refine au (aR gZ rfl) rfl rfl ?_
 refine av rfl rfl ?_
 refine au (aN 0 bK rfl rfl rfl) rfl rfl ?_
 refine av rfl rfl ?_
 refine au (d8 rfl rfl) rfl rfl ?_
 refine aG (t := 44) rfl (fun h9_13 => ?_) (fun h9_13 => ?_)
 refine au (aF rfl rfl) rfl rfl ?_
 refine au (ak rfl) rfl rfl ?_
 refine av rfl rfl ?_
 refine au (aR fD rfl) rfl rfl ?_
 refine av rfl rfl ?_
 refine au (aN 0 bN rfl rfl rfl) rfl rfl ?_
 refine av rfl rfl ?_
 refine au (y_neqs rfl rfl) rfl rfl ?_
 refine aG (t := 49) rfl (fun h9_18 => ?_) (fun h9_18 => ?_)
 refine au (aF rfl rfl) rfl rfl ?_
 refine au (ak rfl) rfl rfl ?_
 refine av rfl rfl ?_
 refine au (aR fD rfl) rfl rfl ?_
 refine av rfl rfl ?_
 refine au (aN 0 bN rfl rfl rfl) rfl rfl ?_
 refine av rfl rfl ?_
 refine bL rfl ent_56 (dF _) rfl ?_
 refine av rfl rfl ?_
 refine au (bW rfl rfl) rfl rfl ?_
 refine aG (t := 55) rfl (fun h9_24 => ?_) (fun h9_24 => ?_)
 refine au (aF rfl rfl) rfl rfl ?_
 refine au (ak rfl) rfl rfl ?_
 refine av rfl rfl ?_
 refine au (aR fD rfl) rfl rfl ?_
 refine av rfl rfl ?_
 refine au (aN 0 bN rfl rfl rfl) rfl rfl ?_
 refine av rfl rfl ?_
 refine bL rfl ent_138 (c_name_Wild _) rfl ?_
 refine av rfl rfl ?_
 refine au (cC rfl) rfl rfl ?_
 refine au (aF rfl rfl) rfl rfl ?_
 refine au (aj rfl) rfl rfl ?_
 refine aa ?_
 refine am ?_
 refine aU ?_
 refine aA ?_
 refine aO ?_
 refine aA ?_
 refine aX (ts := [2]) rfl rfl rfl (fun w hw => ?_)
 refine ⟨(), ?_, hw.base, (hw.weak (List.nil_sublist _) (fun s hs => hs)).toNews⟩
 show Ending.returned (.bool _) = _
 congr 2
 focus first
   | (exfalso; omega)
   | (simp [a8, *]
      done)
   | (have q0 : e.addrs = [] := List.length_eq_zero_iff.1 (by omega)
      simp [a8, *]
      done)
   | (have q0 : ¬ e.addrs = [] := by
        intro h; have h9 := congrArg List.length h; rw [List.length_nil] at h9; omega
      simp [a8, *]
      done)
   | (have q0 : e.ports = [] := List.length_eq_zero_iff.1 (by omega)
      simp [a8, *]
      done)
   | (have q0 : ¬ e.ports = [] := by
        intro h; have h9 := congrArg List.length h; rw [List.length_nil] at h9; omega
      simp [a8, *]
      done)
   | (have q0 : e.addrs = [] := List.length_eq_zero_iff.1 (by omega)
      have q1 : e.ports = [] := List.length_eq_zero_iff.1 (by omega)
      simp [a8, *]
      done)
   | (have q0 : e.addrs = [] := List.length_eq_zero_iff.1 (by omega)
      have q1 : ¬ e.ports = [] := by
        intro h; have h9 := congrArg List.length h; rw [List.length_nil] at h9; omega
      simp [a8, *]
      done)
   | (have q0 : ¬ e.addrs = [] := by
        intro h; have h9 := congrArg List.length h; rw [List.length_nil] at h9; omega
      have q1 : e.ports = [] := List.length_eq_zero_iff.1 (by omega)
      simp [a8, *]
      done)
   | (have q0 : ¬ e.addrs = [] := by
        intro h; have h9 := congrArg List.length h; rw [List.length_nil] at h9; omega
      have q1 : ¬ e.ports = [] := by
        intro h; have h9 := congrArg List.length h; rw [List.length_nil] at h9; omega
      simp [a8, *]
      done)
   | (trace_state; fail)
 refine au (aF rfl rfl) rfl rfl ?_
 refine au (ak rfl) rfl rfl ?_
 refine aw rfl rfl rfl rfl ?_
 refine aw rfl rfl rfl rfl ?_
 refine aw rfl rfl rfl rfl ?_
 refine aw rfl rfl rfl rfl ?_
 refine au (aT rfl rfl) rfl rfl ?_
 refine au (aj rfl) rfl rfl ?_
 refine aa ?_
 refine am ?_
 refine aU ?_
 refine aA ?_
 refine aO ?_
 refine aA ?_
 refine aX (ts := [2]) rfl rfl rfl (fun w hw => ?_)
 refine ⟨(), ?_, hw.base, (hw.weak (List.nil_sublist _) (fun s hs => hs)).toNews⟩
 show Ending.returned (.bool _) = _
 congr 2
 focus first
   | (exfalso; omega)
   | (simp [a8, *]
      done)
   | (have q0 : e.addrs = [] := List.length_eq_zero_iff.1 (by omega)
      simp [a8, *]
      done)
   | (have q0 : ¬ e.addrs = [] := by
        intro h; have h9 := congrArg List.length h; rw [List.length_nil] at h9; omega
      simp [a8, *]
      done)
   | (have q0 : e.ports = [] := List.length_eq_zero_iff.1 (by omega)
      simp [a8, *]
      done)
   | (have q0 : ¬ e.ports = [] := by
        intro h; have h9 := congrArg List.length h; rw [List.length_nil] at h9; omega
      simp [a8, *]
      done)
   | (have q0 : e.addrs = [] := List.length_eq_zero_iff.1 (by omega)
      have q1 : e.ports = [] := List.length_eq_zero_iff.1 (by omega)
      simp [a8, *]
      done)
   | (have q0 : e.addrs = [] := List.length_eq_zero_iff.1 (by omega)
      have q1 : ¬ e.ports = [] := by
        intro h; have h9 := congrArg List.length h; rw [List.length_nil] at h9; omega
      simp [a8, *]
      done)
   | (have q0 : ¬ e.addrs = [] := by
        intro h; have h9 := congrArg List.length h; rw [List.length_nil] at h9; omega
      have q1 : e.ports = [] := List.length_eq_zero_iff.1 (by omega)
      simp [a8, *]
      done)
   | (have q0 : ¬ e.addrs = [] := by
        intro h; have h9 := congrArg List.length h; rw [List.length_nil] at h9; omega
      have q1 : ¬ e.ports = [] := by
        intro h; have h9 := congrArg List.length h; rw [List.length_nil] at h9; omega
      simp [a8, *]
      done)
   | (trace_state; fail)
 refine au (aF rfl rfl) rfl rfl ?_
 refine au (ak rfl) rfl rfl ?_
 refine aw rfl rfl rfl rfl ?_
 refine aw rfl rfl rfl rfl ?_
 refine aw rfl rfl rfl rfl ?_
 refine aw rfl rfl rfl rfl ?_
 refine au (aT rfl rfl) rfl rfl ?_
 refine au (ak rfl) rfl rfl ?_
 refine aw rfl rfl rfl rfl ?_
 refine aw rfl rfl rfl rfl ?_
 refine aw rfl rfl rfl rfl ?_
 refine aw rfl rfl rfl rfl ?_
 refine au (aT rfl rfl) rfl rfl ?_
 refine au (aj rfl) rfl rfl ?_
 refine aa ?_
 refine am ?_
 refine aU ?_
 refine aA ?_
 refine aO ?_
 refine aA ?_
 refine aX (ts := [2]) rfl rfl rfl (fun w hw => ?_)
 refine ⟨(), ?_, hw.base, (hw.weak (List.nil_sublist _) (fun s hs => hs)).toNews⟩
 show Ending.returned (.bool _) = _
 congr 2
 focus first
   | (exfalso; omega)
   | (simp [a8, *]
      done)
   | (have q0 : e.addrs = [] := List.length_eq_zero_iff.1 (by omega)
      simp [a8, *]
      done)
   | (have q0 : ¬ e.addrs = [] := by
        intro h; have h9 := congrArg List.length h; rw [List.length_nil] at h9; omega
      simp [a8, *]
      done)
   | (have q0 : e.ports = [] := List.length_eq_zero_iff.1 (by omega)
      simp [a8, *]
      done)
   | (have q0 : ¬ e.ports = [] := by
        intro h; have h9 := congrArg List.length h; rw [List.length_nil] at h9; omega
      simp [a8, *]
      done)
   | (have q0 : e.addrs = [] := List.length_eq_zero_iff.1 (by omega)
      have q1 : e.ports = [] := List.length_eq_zero_iff.1 (by omega)
      simp [a8, *]
      done)
   | (have q0 : e.addrs = [] := List.length_eq_zero_iff.1 (by omega)
      have q1 : ¬ e.ports = [] := by
        intro h; have h9 := congrArg List.length h; rw [List.length_nil] at h9; omega
      simp [a8, *]
      done)
   | (have q0 : ¬ e.addrs = [] := by
        intro h; have h9 := congrArg List.length h; rw [List.length_nil] at h9; omega
      have q1 : e.ports = [] := List.length_eq_zero_iff.1 (by omega)
      simp [a8, *]
      done)
   | (have q0 : ¬ e.addrs = [] := by
        intro h; have h9 := congrArg List.length h; rw [List.length_nil] at h9; omega
      have q1 : ¬ e.ports = [] := by
        intro h; have h9 := congrArg List.length h; rw [List.length_nil] at h9; omega
      simp [a8, *]
      done)
   | (trace_state; fail)
 refine au (aF rfl rfl) rfl rfl ?_
 refine au (ak rfl) rfl rfl ?_
 refine aw rfl rfl rfl rfl ?_
 refine aw rfl rfl rfl rfl ?_
 refine aw rfl rfl rfl rfl ?_
 refine au (aT rfl rfl) rfl rfl ?_
 refine au (ak rfl) rfl rfl ?_
 refine aw rfl rfl rfl rfl ?_
 refine aw rfl rfl rfl rfl ?_
 refine aw rfl rfl rfl rfl ?_
 refine aw rfl rfl rfl rfl ?_
 refine au (aT rfl rfl) rfl rfl ?_
 refine au (ak rfl) rfl rfl ?_
 refine aw rfl rfl rfl rfl ?_
 refine aw rfl rfl rfl rfl ?_
 refine aw rfl rfl rfl rfl ?_
 refine aw rfl rfl rfl rfl ?_
 refine au (aT rfl rfl) rfl rfl ?_
 refine au (aj rfl) rfl rfl ?_
 refine aa ?_
 refine am ?_
 refine aU ?_
 refine aA ?_
 refine aO ?_
 refine aA ?_
 refine aX (ts := [2]) rfl rfl rfl (fun w hw => ?_)
 refine ⟨(), ?_, hw.base, (hw.weak (List.nil_sublist _) (fun s hs => hs)).toNews⟩
 show Ending.returned (.bool _) = _
 congr 2
 focus first
   | (exfalso; omega)
   | (simp [a8, *]
      done)
   | (have q0 : e.addrs = [] := List.length_eq_zero_iff.1 (by omega)
      simp [a8, *]
      done)
   | (have q0 : ¬ e.addrs = [] := by
        intro h; have h9 := congrArg List.length h; rw [List.length_nil] at h9; omega
      simp [a8, *]
      done)
   | (have q0 : e.ports = [] := List.length_eq_zero_iff.1 (by omega)
      simp [a8, *]
      done)
   | (have q0 : ¬ e.ports = [] := by
        intro h; have h9 := congrArg List.length h; rw [List.length_nil] at h9; omega
      simp [a8, *]
      done)
   | (have q0 : e.addrs = [] := List.length_eq_zero_iff.1 (by omega)
      have q1 : e.ports = [] := List.length_eq_zero_iff.1 (by omega)
      simp [a8, *]
      done)
   | (have q0 : e.addrs = [] := List.length_eq_zero_iff.1 (by omega)
      have q1 : ¬ e.ports = [] := by
        intro h; have h9 := congrArg List.length h; rw [List.length_nil] at h9; omega
      simp [a8, *]
      done)
   | (have q0 : ¬ e.addrs = [] := by
        intro h; have h9 := congrArg List.length h; rw [List.length_nil] at h9; omega
      have q1 : e.ports = [] := List.length_eq_zero_iff.1 (by omega)
      simp [a8, *]
      done)
   | (have q0 : ¬ e.addrs = [] := by
        intro h; have h9 := congrArg List.length h; rw [List.length_nil] at h9; omega
      have q1 : ¬ e.ports = [] := by
        intro h; have h9 := congrArg List.length h; rw [List.length_nil] at h9; omega
      simp [a8, *]
      done)
   | (trace_state; fail)
 refine au (aF rfl rfl) rfl rfl ?_
 refine au (ak rfl) rfl rfl ?_
 refine aw rfl rfl rfl rfl ?_
 refine aw rfl rfl rfl rfl ?_
 refine aw rfl rfl rfl rfl ?_
 refine au (aT rfl rfl) rfl rfl ?_
 refine au (ak rfl) rfl rfl ?_
 refine aw rfl rfl rfl rfl ?_
 refine aw rfl rfl rfl rfl ?_
 refine aw rfl rfl rfl rfl ?_
 refine au (aT rfl rfl) rfl rfl ?_
 refine au (ak rfl) rfl rfl ?_
 refine aw rfl rfl rfl rfl ?_
 refine aw rfl rfl rfl rfl ?_
 refine aw rfl rfl rfl rfl ?_
 refine aw rfl rfl rfl rfl ?_
 refine au (aT rfl rfl) rfl rfl ?_
 refine au (ak rfl) rfl rfl ?_
 refine aw rfl rfl rfl rfl ?_
 refine aw rfl rfl rfl rfl ?_
 refine aw rfl rfl rfl rfl ?_
 refine aw rfl rfl rfl rfl ?_
 refine au (aT rfl rfl) rfl rfl ?_
 refine au (aj rfl) rfl rfl ?_
 refine aa ?_
 refine am ?_
 refine aU ?_
 refine aA ?_
 refine aO ?_
 refine aA ?_
 refine aX (ts := [2]) rfl rfl rfl (fun w hw => ?_)
 refine ⟨(), ?_, hw.base, (hw.weak (List.nil_sublist _) (fun s hs => hs)).toNews⟩
 show Ending.returned (.bool _) = _
 congr 2
 focus first
   | (exfalso; omega)
   | (simp [a8, *]
      done)
   | (have q0 : e.addrs = [] := List.length_eq_zero_iff.1 (by omega)
      simp [a8, *]
      done)
   | (have q0 : ¬ e.addrs = [] := by
        intro h; have h9 := congrArg List.length h; rw [List.length_nil] at h9; omega
      simp [a8, *]
      done)
   | (have q0 : e.ports = [] := List.length_eq_zero_iff.1 (by omega)
      simp [a8, *]
      done)
   | (have q0 : ¬ e.ports = [] := by
        intro h; have h9 := congrArg List.length h; rw [List.length_nil] at h9; omega
      simp [a8, *]
      done)
   | (have q0 : e.addrs = [] := List.length_eq_zero_iff.1 (by omega)
      have q1 : e.ports = [] := List.length_eq_zero_iff.1 (by omega)
      simp [a8, *]
      done)
   | (have q0 : e.addrs = [] := List.length_eq_zero_iff.1 (by omega)
      have q1 : ¬ e.ports = [] := by
        intro h; have h9 := congrArg List.length h; rw [List.length_nil] at h9; omega
      simp [a8, *]
      done)
   | (have q0 : ¬ e.addrs = [] := by
        intro h; have h9 := congrArg List.length h; rw [List.length_nil] at h9; omega
      have q1 : e.ports = [] := List.length_eq_zero_iff.1 (by omega)
      simp [a8, *]
      done)
   | (have q0 : ¬ e.addrs = [] := by
        intro h; have h9 := congrArg List.length h; rw [List.length_nil] at h9; omega
      have q1 : ¬ e.ports = [] := by
        intro h; have h9 := congrArg List.length h; rw [List.length_nil] at h9; omega
      simp [a8, *]
      done)
   | (trace_state; fail)
 refine au (ak rfl) rfl rfl ?_
 refine aw rfl rfl rfl rfl ?_
 refine aw rfl rfl rfl rfl ?_
 refine aw rfl rfl rfl rfl ?_
 refine aw rfl rfl rfl rfl ?_
 refine au (aT rfl rfl) rfl rfl ?_
 refine au (ak rfl) rfl rfl ?_
 refine aw rfl rfl rfl rfl ?_
 refine aw rfl rfl rfl rfl ?_
 refine aw rfl rfl rfl rfl ?_
 refine au (aT rfl rfl) rfl rfl ?_
 refine au (ak rfl) rfl rfl ?_
 refine aw rfl rfl rfl rfl ?_
 refine aw rfl rfl rfl rfl ?_
 refine aw rfl rfl rfl rfl ?_
 refine au (aT rfl rfl) rfl rfl ?_
 refine au (ak rfl) rfl rfl ?_
 refine aw rfl rfl rfl rfl ?_
 refine aw rfl rfl rfl rfl ?_
 refine aw rfl rfl rfl rfl ?_
 refine aw rfl rfl rfl rfl ?_
 refine au (aT rfl rfl) rfl rfl ?_
 refine au (ak rfl) rfl rfl ?_
 refine aw rfl rfl rfl rfl ?_
 refine aw rfl rfl rfl rfl ?_
 refine aw rfl rfl rfl rfl ?_
 refine aw rfl rfl rfl rfl ?_
 refine au (aT rfl rfl) rfl rfl ?_
 refine au (aj rfl) rfl rfl ?_
 refine aa ?_
 refine am ?_
 refine aU ?_
 refine aA ?_
 refine aO ?_
 refine aA ?_
 refine aX (ts := [2]) rfl rfl rfl (fun w hw => ?_)
 refine ⟨(), ?_, hw.base, (hw.weak (List.nil_sublist _) (fun s hs => hs)).toNews⟩
 show Ending.returned (.bool _) = _
 congr 2
 focus first
   | (exfalso; omega)
   | (simp [a8, *]
      done)
   | (have q0 : e.addrs = [] := List.length_eq_zero_iff.1 (by omega)
      simp [a8, *]
      done)
   | (have q0 : ¬ e.addrs = [] := by
        intro h; have h9 := congrArg List.length h; rw [List.length_nil] at h9; omega
      simp [a8, *]
      done)
   | (have q0 : e.ports = [] := List.length_eq_zero_iff.1 (by omega)
      simp [a8, *]
      done)
   | (have q0 : ¬ e.ports = [] := by
        intro h; have h9 := congrArg List.length h; rw [List.length_nil] at h9; omega
      simp [a8, *]
      done)
   | (have q0 : e.addrs = [] := List.length_eq_zero_iff.1 (by omega)
      have q1 : e.ports = [] := List.length_eq_zero_iff.1 (by omega)
      simp [a8, *]
      done)
   | (have q0 : e.addrs = [] := List.length_eq_zero_iff.1 (by omega)
      have q1 : ¬ e.ports = [] := by
        intro h; have h9 := congrArg List.length h; rw [List.length_nil] at h9; omega
      simp [a8, *]
      done)
   | (have q0 : ¬ e.addrs = [] := by
        intro h; have h9 := congrArg List.length h; rw [List.length_nil] at h9; omega
      have q1 : e.ports = [] := List.length_eq_zero_iff.1 (by omega)
      simp [a8, *]
      done)
   | (have q0 : ¬ e.addrs = [] := by
        intro h; have h9 := congrArg List.length h; rw [List.length_nil] at h9; omega
      have q1 : ¬ e.ports = [] := by
        intro h; have h9 := congrArg List.length h; rw [List.length_nil] at h9; omega
      simp [a8, *]
      done)
   | (trace_state; fail)
 refine au (aj rfl) rfl rfl ?_
 refine aa ?_
 refine am ?_
 refine aK rfl ?_
 refine aZ ?_
 refine am ?_
 refine cB ?_
 refine dQ rfl ?_
 refine bl ?_
 refine dQ rfl ?_
 refine bl ?_
 refine dQ rfl ?_
 refine bl ?_
 refine bA ?_
 refine am ?_
 refine ap ?_
 refine ah ?_
 refine au (aj rfl) rfl rfl ?_
 refine aa ?_
 refine am ?_
 refine aU ?_
 refine aX (ts := [2]) rfl rfl rfl (fun w hw => ?_)
 refine ⟨(), ?_, hw.base, (hw.weak (List.nil_sublist _) (fun s hs => hs)).toNews⟩
 show Ending.returned (.bool _) = _
 congr 2
 focus first
   | (exfalso; omega)
   | (simp [a8, *]
      done)
   | (have q0 : e.addrs = [] := List.length_eq_zero_iff.1 (by omega)
      simp [a8, *]
      done)
   | (have q0 : ¬ e.addrs = [] := by
        intro h; have h9 := congrArg List.length h; rw [List.length_nil] at h9; omega
      simp [a8, *]
      done)
   | (have q0 : e.ports = [] := List.length_eq_zero_iff.1 (by omega)
      simp [a8, *]
      done)
   | (have q0 : ¬ e.ports = [] := by
        intro h; have h9 := congrArg List.length h; rw [List.length_nil] at h9; omega
      simp [a8, *]
      done)
   | (have q0 : e.addrs = [] := List.length_eq_zero_iff.1 (by omega)
      have q1 : e.ports = [] := List.length_eq_zero_iff.1 (by omega)
      simp [a8, *]
      done)
   | (have q0 : e.addrs = [] := List.length_eq_zero_iff.1 (by omega)
      have q1 : ¬ e.ports = [] := by
        intro h; have h9 := congrArg List.length h; rw [List.length_nil] at h9; omega
      simp [a8, *]
      done)
   | (have q0 : ¬ e.addrs = [] := by
        intro h; have h9 := congrArg List.length h; rw [List.length_nil] at h9; omega
      have q1 : e.ports = [] := List.length_eq_zero_iff.1 (by omega)
      simp [a8, *]
      done)
   | (have q0 : ¬ e.addrs = [] := by
        intro h; have h9 := congrArg List.length h; rw [List.length_nil] at h9; omega
      have q1 : ¬ e.ports = [] := by
        intro h; have h9 := congrArg List.length h; rw [List.length_nil] at h9; omega
      simp [a8, *]
      done)
   | (trace_state; fail)

theorem fh {e : En} (h1 : ¬ bi e.host ≠ 0) (h2 : e.host = []) : 2 = cM e := by rw [cM, if_neg h1, if_pos (.inl h2)]

theorem gw (e : En) (A B : Option Addr) (c d : Nat) (hwa : ∀ a ∈ e.addrs, 0 ≤ a.lo) (hla : e.addrs.length ≤ 1000000000000) (hlp : e.ports.length ≤ 1000000000000) (hk : -9223372036854775808 ≤ e.kind ∧ e.kind ≤ 9223372036854775807) : RC Try.prog 53 #[.agg (enC e A B c d).toArray] [Ch.rd A 3 gS e.addrs, Ch.rd B 1 fG e.ports] (α := Unit) (fun _ => .int .i64 (cM e)) (fun _ => []) := by
 refine bZ (args := [.agg (enC e A B c d).toArray]) 29 Try.func53 rfl rfl rfl (fun w0 => ?_)
 refine ap ?_
 refine ah ?_
 refine da rfl rfl rfl (fun b1 => ?_)
 refine au (aj rfl) rfl rfl ?_
 refine aa ?_
 refine am ?_
 refine ap ?_
 refine ap ?_
 refine ah ?_
 refine au (aR db rfl) rfl rfl ?_
 refine au (aN 0 bN rfl rfl rfl) rfl rfl ?_
 refine bL rfl ent_56 (dF _) rfl ?_
 refine au (aj rfl) rfl rfl ?_
 refine aa ?_
 refine am ?_
 refine ap ?_
 refine ah ?_
 refine au (ak rfl) rfl rfl ?_
 refine au (dA rfl rfl) rfl rfl ?_
 refine aG (t := 8) rfl (fun h2_1 => ?_) (fun h2_1 => ?_)
 refine aa ?_
 refine am ?_
 refine aI rfl ?_
 refine ap ?_
 refine ah ?_
 refine au (ak rfl) rfl rfl ?_
 refine au (aj rfl) rfl rfl ?_
 refine aa ?_
 refine am ?_
 refine aU ?_
 refine aA ?_
 refine aX (ts := [2]) rfl rfl rfl (fun w hw => ?_)
 refine ⟨(), ?_, hw.base, (hw.weak (List.nil_sublist _) (fun s hs => hs)).toNews⟩
 show Ending.returned (.int _ _) = _
 congr 2
 focus first
   | exact fh h2_1 h4_2
   | (simp [cM, *]
      done)
   | (have q1 : 2147483647 < e.ttl := by omega
      simp [cM, *]
      done)
   | (have q1 : ¬ 2147483647 < e.ttl := by omega
      simp [cM, *]
      done)
   | (trace_state; fail)
 refine aa ?_
 refine am ?_
 refine aK rfl ?_
 refine aZ ?_
 refine am ?_
 refine ap ?_
 refine ap ?_
 refine ah ?_
 refine au (aR db rfl) rfl rfl ?_
 refine au (aN 0 bN rfl rfl rfl) rfl rfl ?_
 refine au (d8 rfl rfl) rfl rfl ?_
 refine aG (t := 12) rfl (fun h4_2 => ?_) (fun h4_2 => ?_)
 refine au (ak rfl) rfl rfl ?_
 refine aw rfl rfl rfl rfl ?_
 refine aw rfl rfl rfl rfl ?_
 refine aw rfl rfl rfl rfl ?_
 refine au (aF rfl rfl) rfl rfl ?_
 refine au (ak rfl) rfl rfl ?_
 refine aw rfl rfl rfl rfl ?_
 refine aw rfl rfl rfl rfl ?_
 refine aw rfl rfl rfl rfl ?_
 refine aw rfl rfl rfl rfl ?_
 refine au (aF rfl rfl) rfl rfl ?_
 refine au (ak rfl) rfl rfl ?_
 refine aw rfl rfl rfl rfl ?_
 refine aw rfl rfl rfl rfl ?_
 refine aw rfl rfl rfl rfl ?_
 refine au (aF rfl rfl) rfl rfl ?_
 refine aa ?_
 refine am ?_
 refine aI rfl ?_
 refine ap ?_
 refine ah ?_
 refine au (aj rfl) rfl rfl ?_
 refine aa ?_
 refine am ?_
 refine aU ?_
 refine aA ?_
 refine aX (ts := [2]) rfl rfl rfl (fun w hw => ?_)
 refine ⟨(), ?_, hw.base, (hw.weak (List.nil_sublist _) (fun s hs => hs)).toNews⟩
 show Ending.returned (.int _ _) = _
 congr 2
 focus first
   | exact fh h2_1 h4_2
   | (simp [cM, *]
      done)
   | (have q1 : 2147483647 < e.ttl := by omega
      simp [cM, *]
      done)
   | (have q1 : ¬ 2147483647 < e.ttl := by omega
      simp [cM, *]
      done)
   | (trace_state; fail)
 refine au (ak rfl) rfl rfl ?_
 refine av rfl rfl ?_
 refine au (aR fa_44_6 rfl) rfl rfl ?_
 refine av rfl rfl ?_
 refine au (aN 0 ty_42 rfl rfl rfl) rfl rfl ?_
 refine av rfl rfl ?_
 refine au (em rfl rfl) rfl rfl ?_
 refine aG (t := 16) rfl (fun h4_6 => ?_) (fun h4_6 => ?_)
 refine au (aT rfl rfl) rfl rfl ?_
 refine au (ak rfl) rfl rfl ?_
 refine aw rfl rfl rfl rfl ?_
 refine aw rfl rfl rfl rfl ?_
 refine aw rfl rfl rfl rfl ?_
 refine aw rfl rfl rfl rfl ?_
 refine au (aF rfl rfl) rfl rfl ?_
 refine au (ak rfl) rfl rfl ?_
 refine aw rfl rfl rfl rfl ?_
 refine aw rfl rfl rfl rfl ?_
 refine aw rfl rfl rfl rfl ?_
 refine au (aF rfl rfl) rfl rfl ?_
 refine aa ?_
 refine am ?_
 refine aI rfl ?_
 refine ap ?_
 refine ah ?_
 refine au (aj rfl) rfl rfl ?_
 refine aa ?_
 refine am ?_
 refine aU ?_
 refine aA ?_
 refine aX (ts := [2]) rfl rfl rfl (fun w hw => ?_)
 refine ⟨(), ?_, hw.base, (hw.weak (List.nil_sublist _) (fun s hs => hs)).toNews⟩
 show Ending.returned (.int _ _) = _
 congr 2
 focus first
   | exact fh h2_1 h4_2
   | (simp [cM, *]
      done)
   | (have q1 : 2147483647 < e.ttl := by omega
      simp [cM, *]
      done)
   | (have q1 : ¬ 2147483647 < e.ttl := by omega
      simp [cM, *]
      done)
   | (trace_state; fail)
 refine au (aT rfl rfl) rfl rfl ?_
 refine au (ak rfl) rfl rfl ?_
 refine av rfl rfl ?_
 refine au (aR f9 rfl) rfl rfl ?_
 refine av rfl rfl ?_
 refine au (aN 0 ty_41 rfl rfl rfl) rfl rfl ?_
 refine av rfl rfl ?_
 refine aS rfl ent_93 rfl (c_entry_ports _ _ _ (by omega)) (fun w hw => (ao (cW 1 rfl hw) aM)) ?_
 refine b6 (t := 21) rfl (fun h4_11 => ?_) (fun h4_11 => ?_)
 refine av rfl rfl ?_
 refine au (cC rfl) rfl rfl ?_
 refine au (aT rfl rfl) rfl rfl ?_
 refine au (ak rfl) rfl rfl ?_
 refine av rfl rfl ?_
 refine au (bj 0 a7 rfl rfl rfl rfl) rfl rfl ?_
 refine av rfl rfl ?_
 refine aS rfl ent_94 rfl (c_entry_may _ _ _ _ _ hwa hla hlp hk) (fun w hw => (ao (cW 0 rfl hw) (ao (cW 1 rfl hw) aM))) ?_
 refine b6 (t := 26) rfl (fun h4_16 => ?_) (fun h4_16 => ?_)
 refine av rfl rfl ?_
 refine au (cC rfl) rfl rfl ?_
 refine au (aT rfl rfl) rfl rfl ?_
 refine aa ?_
 refine am ?_
 refine aK rfl ?_
 refine aZ ?_
 refine am ?_
 refine ap ?_
 refine ah ?_
 refine au (aj rfl) rfl rfl ?_
 refine aa ?_
 refine am ?_
 refine aU ?_
 refine aX (ts := [2]) rfl rfl rfl (fun w hw => ?_)
 refine ⟨(), ?_, hw.base, (hw.weak (List.nil_sublist _) (fun s hs => hs)).toNews⟩
 show Ending.returned (.int _ _) = _
 congr 2
 focus first
   | exact fh h2_1 h4_2
   | (simp [cM, *]
      done)
   | (have q1 : 2147483647 < e.ttl := by omega
      simp [cM, *]
      done)
   | (have q1 : ¬ 2147483647 < e.ttl := by omega
      simp [cM, *]
      done)
   | (trace_state; fail)
 refine av rfl rfl ?_
 refine au (cC rfl) rfl rfl ?_
 refine au (aT rfl rfl) rfl rfl ?_
 refine aa ?_
 refine am ?_
 refine aI rfl ?_
 refine ap ?_
 refine ah ?_
 refine au (aj rfl) rfl rfl ?_
 refine aa ?_
 refine am ?_
 refine aU ?_
 refine aA ?_
 refine aX (ts := [2]) rfl rfl rfl (fun w hw => ?_)
 refine ⟨(), ?_, hw.base, (hw.weak (List.nil_sublist _) (fun s hs => hs)).toNews⟩
 show Ending.returned (.int _ _) = _
 congr 2
 focus first
   | exact fh h2_1 h4_2
   | (simp [cM, *]
      done)
   | (have q1 : 2147483647 < e.ttl := by omega
      simp [cM, *]
      done)
   | (have q1 : ¬ 2147483647 < e.ttl := by omega
      simp [cM, *]
      done)
   | (trace_state; fail)
 refine av rfl rfl ?_
 refine au (cC rfl) rfl rfl ?_
 refine au (aT rfl rfl) rfl rfl ?_
 refine au (ak rfl) rfl rfl ?_
 refine aw rfl rfl rfl rfl ?_
 refine aw rfl rfl rfl rfl ?_
 refine aw rfl rfl rfl rfl ?_
 refine au (aF rfl rfl) rfl rfl ?_
 refine aa ?_
 refine am ?_
 refine aI rfl ?_
 refine ap ?_
 refine ah ?_
 refine au (aj rfl) rfl rfl ?_
 refine aa ?_
 refine am ?_
 refine aU ?_
 refine aA ?_
 refine aX (ts := [2]) rfl rfl rfl (fun w hw => ?_)
 refine ⟨(), ?_, hw.base, (hw.weak (List.nil_sublist _) (fun s hs => hs)).toNews⟩
 show Ending.returned (.int _ _) = _
 congr 2
 focus first
   | exact fh h2_1 h4_2
   | (simp [cM, *]
      done)
   | (have q1 : 2147483647 < e.ttl := by omega
      simp [cM, *]
      done)
   | (have q1 : ¬ 2147483647 < e.ttl := by omega
      simp [cM, *]
      done)
   | (trace_state; fail)

theorem rs_none {A : Option Addr} {n sz : Nat} {cs : List Value} {w : World} (h : RsP A n sz cs w) (hA : A.isNone = true) : n = 0 := by
  rcases h.at_ with h0 | ⟨b, o, rfl, _⟩
  · exact h0
  · cases hA
theorem c_Clone_ad (l : List Ad) (A : Option Addr) (c : Nat) (hl : l.length ≤ 1000000000000) : RC Try.prog 89 #[.slice A l.length c] [Ch.rd A 3 gS l] (α := Option Addr × Nat) (fun p => .slice p.1 l.length p.2) (fun p => [Ch.ls p.1 p.2 62 3 gS l]) := by
 refine bZ (args := [.slice A l.length c]) 8 Try.func89 rfl rfl rfl (fun w0 => ?_)
 refine ap ?_
 refine ah ?_
 refine au (aj rfl) rfl rfl ?_
 refine aa ?_
 refine am ?_
 refine ap ?_
 refine ap ?_
 refine ah ?_
 refine au (ak rfl) rfl rfl ?_
 refine au (y_eqsn Try.underlying40 rfl rfl) rfl rfl ?_
 refine b6 (t := 4) rfl (fun h1_1 => ?_) (fun h1_1 => ?_)
 refine aa ?_
 refine am ?_
 refine aI rfl ?_
 refine ap ?_
 refine ah ?_
 refine au (aj rfl) rfl rfl ?_
 refine aa ?_
 refine am ?_
 refine aU ?_
 refine aA ?_
 refine aX (ts := [2]) rfl rfl rfl (fun w hw => ?_)
 have hr : RsP A l.length 3 _ w := hw.sh _ List.mem_cons_self
 have h0 : l = [] := List.length_eq_zero_iff.1 (rs_none hr h1_1)
 subst h0
 exact ⟨(none, 0), rfl, hw.base, (hw.nilsl 62 3).toNews⟩
 refine aa ?_
 refine am ?_
 refine aK rfl ?_
 refine aZ ?_
 refine am ?_
 refine ap ?_
 refine ah ?_
 refine bh (vs := []) ([] : List (Ad)) enc_ad Try.underlying40 fo rfl rfl rfl rfl rfl rfl (fun As1 => ?_)
 refine au (ak rfl) rfl rfl ?_
 refine d1 (enc := gS) (sz := 3) l Try.underlying40 fo rfl rfl rfl (fun A c => .z) (src_S 0 Try.underlying40 rfl) (by simp only [List.length_cons, List.length_nil, Nat.zero_add]; omega) (by simp only [List.length_cons, List.length_nil, Nat.zero_add]; omega) rfl (fun A1 c1 => ?_)
 refine au (aj rfl) rfl rfl ?_
 refine aa ?_
 refine am ?_
 refine aU ?_
 refine aX (ts := [2]) rfl rfl rfl (fun w hw => ?_)
 exact ⟨(A1, c1), rfl, hw.base, hw.toNews⟩

theorem c_Clone_int (l : List Int) (A : Option Addr) (c : Nat) (hl : l.length ≤ 1000000000000) : RC Try.prog 90 #[.slice A l.length c] [Ch.rd A 1 fG l] (α := Option Addr × Nat) (fun p => .slice p.1 l.length p.2) (fun p => [Ch.ls p.1 p.2 3 1 fG l]) := by
 refine bZ (args := [.slice A l.length c]) 8 Try.func90 rfl rfl rfl (fun w0 => ?_)
 refine ap ?_
 refine ah ?_
 refine au (aj rfl) rfl rfl ?_
 refine aa ?_
 refine am ?_
 refine ap ?_
 refine ap ?_
 refine ah ?_
 refine au (ak rfl) rfl rfl ?_
 refine au (y_eqsn Try.underlying41 rfl rfl) rfl rfl ?_
 refine b6 (t := 4) rfl (fun h1_1 => ?_) (fun h1_1 => ?_)
 refine aa ?_
 refine am ?_
 refine aI rfl ?_
 refine ap ?_
 refine ah ?_
 refine au (aj rfl) rfl rfl ?_
 refine aa ?_
 refine am ?_
 refine aU ?_
 refine aA ?_
 refine aX (ts := [2]) rfl rfl rfl (fun w hw => ?_)
 have hr : RsP A l.length 1 _ w := hw.sh _ List.mem_cons_self
 have h0 : l = [] := List.length_eq_zero_iff.1 (rs_none hr h1_1)
 subst h0
 exact ⟨(none, 0), rfl, hw.base, (hw.nilsl 3 1).toNews⟩
 refine aa ?_
 refine am ?_
 refine aK rfl ?_
 refine aZ ?_
 refine am ?_
 refine ap ?_
 refine ah ?_
 refine bh (vs := []) ([] : List (Int)) enc_i Try.underlying41 d6 rfl rfl rfl rfl rfl rfl (fun As1 => ?_)
 refine au (ak rfl) rfl rfl ?_
 refine d1 (enc := fG) (sz := 1) l Try.underlying41 d6 rfl rfl rfl (fun A c => .z) (src_S 0 Try.underlying41 rfl) (by simp only [List.length_cons, List.length_nil, Nat.zero_add]; omega) (by simp only [List.length_cons, List.length_nil, Nat.zero_add]; omega) rfl (fun A1 c1 => ?_)
 refine au (aj rfl) rfl rfl ?_
 refine aa ?_
 refine am ?_
 refine aU ?_
 refine aX (ts := [2]) rfl rfl rfl (fun w hw => ?_)
 exact ⟨(A1, c1), rfl, hw.base, hw.toNews⟩

theorem c_entry_Key (e : En) (A B : Option Addr) (c d : Nat) (hn : e.host.length ≤ 1000000000) : d4 Try.prog 121 #[.agg (enC e A B c d).toArray] (.string (ba (bg e.host))) := by
 intro w0
 refine bR (ok0 := no) (S := []) (args := [.agg (enC e A B c d).toArray]) 6 Try.func121 rfl rfl rfl (by simp) (by simp) ?_
 refine ap ?_
 refine ah ?_
 refine da rfl rfl rfl (fun b1 => ?_)
 refine au (aj rfl) rfl rfl ?_
 refine aa ?_
 refine am ?_
 refine ap ?_
 refine ah ?_
 refine au (aR db rfl) rfl rfl ?_
 refine au (aN 0 bN rfl rfl rfl) rfl rfl ?_
 refine bL rfl ent_63 (e5 _ (by omega)) rfl ?_
 refine au (aj rfl) rfl rfl ?_
 refine aa ?_
 refine am ?_
 refine aU ?_
 refine aX (ts := [2]) rfl rfl rfl (fun w hw => ?_)
 exact ⟨rfl, hw.base⟩
end Go.Proofs.Ytnpdgmoeoidppaa
