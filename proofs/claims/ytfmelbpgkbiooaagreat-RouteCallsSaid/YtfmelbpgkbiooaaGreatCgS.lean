import Derived.Test.YtfmelbpgkbiooaaGreatLlS
import Derived.Test.YtfmelbpgkbiooaaGreatPcS
/- addresses, entries -/
namespace Go.Proofs.YtfmelbpgkbiooaaGreat
open Go.RowKit Go.Shelf
set_option linter.unusedVariables false
set_option linter.unusedSimpArgs false

theorem ent_128 : Enters Tryz.prog 128 := enters_of Tryz.func128 (by kernel_rfl) rfl
theorem ent_129 : Enters Tryz.prog 129 := enters_of Tryz.func129 (by kernel_rfl) rfl
theorem ent_162 : Enters Tryz.prog 162 := enters_of Tryz.func162 (by kernel_rfl) rfl
theorem ent_163 : Enters Tryz.prog 163 := enters_of Tryz.func163 (by kernel_rfl) rfl
theorem ent_176 : Enters Tryz.prog 176 := enters_of Tryz.func176 (by kernel_rfl) rfl
theorem ent_181 : Enters Tryz.prog 181 := enters_of Tryz.func181 (by kernel_rfl) rfl
theorem ent_50 : Enters Tryz.prog 50 := enters_of Tryz.func50 (by kernel_rfl) rfl
theorem ent_52 : Enters Tryz.prog 52 := enters_of Tryz.func52 (by kernel_rfl) rfl
theorem ent_88 : Enters Tryz.prog 88 := enters_of Tryz.func88 (by kernel_rfl) rfl
theorem ent_94 : Enters Tryz.prog 94 := enters_of Tryz.func94 (by kernel_rfl) rfl
theorem fa_28_0 : FA Tryz.prog 28 0 0 := fun b o w => by kernel_rfl
theorem fa_28_1 : FA Tryz.prog 28 1 1 := fun b o w => by kernel_rfl
theorem fa_28_2 : FA Tryz.prog 28 2 2 := fun b o w => by kernel_rfl
theorem fa_47_0 : FA Tryz.prog 47 0 0 := fun b o w => by kernel_rfl
theorem fa_47_1 : FA Tryz.prog 47 1 1 := fun b o w => by kernel_rfl
theorem fa_47_2 : FA Tryz.prog 47 2 2 := fun b o w => by kernel_rfl
theorem fa_47_3 : FA Tryz.prog 47 3 3 := fun b o w => by kernel_rfl
theorem fa_47_4 : FA Tryz.prog 47 4 4 := fun b o w => by kernel_rfl
theorem fa_47_5 : FA Tryz.prog 47 5 5 := fun b o w => by kernel_rfl
theorem fa_47_6 : FA Tryz.prog 47 6 6 := fun b o w => by kernel_rfl
theorem ty_26 : TyI Tryz.prog 26 false 1 8 (.int .u64 0) := TyI.mk' (by kernel_rfl) (fun _ => by kernel_rfl)
theorem ty_28 : TyI Tryz.prog 28 true 3 24 (.agg #[.bool false, .int .u64 0, .int .u64 0]) := TyI.mk' (by kernel_rfl) (fun _ => by kernel_rfl)
theorem ty_3 : TyI Tryz.prog 3 false 1 8 (.int .i64 0) := TyI.mk' (by kernel_rfl) (fun _ => by kernel_rfl)
theorem ty_4 : TyI Tryz.prog 4 false 1 1 (.bool false) := TyI.mk' (by kernel_rfl) (fun _ => by kernel_rfl)
theorem ty_43 : TyI Tryz.prog 43 false 1 24 (.slice none 0 0) := TyI.mk' (by kernel_rfl) (fun _ => by kernel_rfl)
theorem ty_44 : TyI Tryz.prog 44 false 1 24 (.slice none 0 0) := TyI.mk' (by kernel_rfl) (fun _ => by kernel_rfl)
theorem ty_45 : TyI Tryz.prog 45 false 1 4 (.int .u32 0) := TyI.mk' (by kernel_rfl) (fun _ => by kernel_rfl)
theorem ty_47 : TyI Tryz.prog 47 true 7 112 (.agg #[.string ⟨#[]⟩, .int .i64 0, .string ⟨#[]⟩, .slice none 0 0, .string ⟨#[]⟩, .slice none 0 0, .int .u32 0]) := TyI.mk' (by kernel_rfl) (fun _ => by kernel_rfl)

/-- Addresses are compared field by field. -/
theorem eqd_ad (a b : Ad) : EqD Tryz.prog 2 28 (.agg (adC a).toArray) (.agg (adC b).toArray) (decide (a = b)) := by
  have h : EqD Tryz.prog 2 28 (.agg (adC a).toArray) (.agg (adC b).toArray) ((a.six == b.six) && ((a.hi == b.hi) && ((a.lo == b.lo) && true))) :=
    eqd_struct (n := 1) Tryz.underlying28 (by kernel_rfl) (eqf_cons (v := .bool a.six) (u := .bool b.six) (by kernel_rfl) (fun _ => by kernel_rfl) (fun _ => by kernel_rfl) (eqd_bool Tryz.underlying4) rfl (eqf_cons (v := .int .u64 a.hi) (u := .int .u64 b.hi) (by kernel_rfl) (fun _ => by kernel_rfl) (fun _ => by kernel_rfl) (eqd_int Tryz.underlying26) rfl (eqf_cons (v := .int .u64 a.lo) (u := .int .u64 b.lo) (by kernel_rfl) (fun _ => by kernel_rfl) (fun _ => by kernel_rfl) (eqd_int Tryz.underlying26) rfl eqf_nil)))
  have e : ((a.six == b.six) && ((a.hi == b.hi) && ((a.lo == b.lo) && true))) = decide (a = b) := by
    cases a; cases b
    rw [Bool.eq_iff_iff]
    simp
  rw [e] at h; exact h
theorem keyl_ad : KeyL Tryz.prog 28 (fun a : Ad => .agg (adC a).toArray) :=
  keyl_agg Tryz.underlying28 (fun e a w => by kernel_rfl) eqd_ad rfl (fun a => by simp [Instr.sameBits, adC])

theorem ck_six {a : Ad} (h : a.six = true) : addrCk a = 0 := by unfold addrCk; rw [if_neg (fun h2 => by rw [h] at h2; exact absurd h2.1 (by simp))]
theorem ck_bad {a : Ad} (h : a.six = false) (h2 : a.hi ≠ 0 ∨ 4294967296 ≤ a.lo) : addrCk a = 2 := by unfold addrCk; rw [if_pos ⟨h, h2⟩]
theorem ck_ok {a : Ad} (h : ¬ a.hi ≠ 0) (h2 : ¬ 4294967296 ≤ a.lo) : addrCk a = 0 := by unfold addrCk; rw [if_neg (fun h3 => by have := h3.2; omega)]

theorem c_addr_Check (a : Ad) (h0 : 0 ≤ a.lo) : Pure Tryz.prog 52 #[.agg (adC a).toArray] (.int .i64 (addrCk a)) := by
 intro w0
 refine calls_of_W (ok0 := no) (S := []) (args := [.agg (adC a).toArray]) 17 Tryz.func52 rfl rfl rfl (by simp) (by simp) ?_
 refine w_seq ?_
 refine w_region ?_
 refine o_box rfl rfl rfl (fun b1 => ?_)
 refine o_y (y_assign rfl) rfl rfl ?_
 refine wl_nil ?_
 refine e_seq ?_
 refine w_seq ?_
 refine w_seq ?_
 refine w_region ?_
 refine o_y (y_field fa_28_0 rfl) rfl rfl ?_
 refine o_y (y_loadr 0 ty_4 rfl rfl rfl) rfl rfl ?_
 refine wl_splitb (t := 4) rfl (fun h1_1 => ?_) (fun h1_1 => ?_)
 refine o_y (y_not rfl) rfl rfl ?_
 refine o_y (y_move rfl) rfl rfl ?_
 refine wl_gno rfl rfl rfl rfl ?_
 refine wl_gno rfl rfl rfl rfl ?_
 refine wl_gno rfl rfl rfl rfl ?_
 refine wl_gno rfl rfl rfl rfl ?_
 refine wl_gnou rfl rfl rfl ?_
 refine wl_gnou rfl rfl rfl ?_
 refine wl_gnou rfl rfl rfl ?_
 refine wl_gnou rfl rfl rfl ?_
 refine wl_gno rfl rfl rfl rfl ?_
 refine o_y (y_pick_f rfl rfl) rfl rfl ?_
 refine wl_nil ?_
 refine e_seq ?_
 refine w_cond_f rfl ?_
 refine w_skip ?_
 refine e_seq ?_
 refine w_seq ?_
 refine w_region ?_
 refine o_y (y_assign rfl) rfl rfl ?_
 refine wl_nil ?_
 refine e_seq ?_
 refine w_ret ?_
 refine e_ret (ts := [2]) rfl rfl rfl (fun w hw => ?_)
 exact ⟨by rw [ck_six h1_1]; rfl, hw.base⟩
 refine o_y (y_not rfl) rfl rfl ?_
 refine o_y (y_move rfl) rfl rfl ?_
 refine wl_gyes rfl rfl ?_
 refine o_y (y_field fa_28_1 rfl) rfl rfl ?_
 refine wl_gyes rfl rfl ?_
 refine o_y (y_loadr 0 ty_26 rfl rfl rfl) rfl rfl ?_
 refine wl_gyes rfl rfl ?_
 refine o_y (y_neq rfl rfl) rfl rfl ?_
 refine wl_splitp (t := 9) rfl (fun h1_6 => ?_) (fun h1_6 => ?_)
 refine wl_gyes rfl rfl ?_
 refine o_y (y_move rfl) rfl rfl ?_
 refine wl_gno rfl rfl rfl rfl ?_
 refine wl_gno rfl rfl rfl rfl ?_
 refine wl_gno rfl rfl rfl rfl ?_
 refine wl_gno rfl rfl rfl rfl ?_
 refine wl_gyes rfl rfl ?_
 refine o_y (y_pick_t rfl rfl) rfl rfl ?_
 refine o_y (y_pick_t rfl rfl) rfl rfl ?_
 refine wl_nil ?_
 refine e_seq ?_
 refine w_cond_t rfl ?_
 refine w_seq ?_
 refine w_region ?_
 refine o_y (y_assign rfl) rfl rfl ?_
 refine wl_nil ?_
 refine e_seq ?_
 refine w_ret ?_
 refine e_seq_ret ?_
 refine e_ret (ts := [2]) rfl rfl rfl (fun w hw => ?_)
 exact ⟨by rw [ck_bad h1_1 (.inl h1_6)]; rfl, hw.base⟩
 refine wl_gyes rfl rfl ?_
 refine o_y (y_move rfl) rfl rfl ?_
 refine wl_gyes rfl rfl ?_
 refine o_y (y_field fa_28_2 rfl) rfl rfl ?_
 refine wl_gyes rfl rfl ?_
 refine o_y (y_loadr 0 ty_26 rfl rfl rfl) rfl rfl ?_
 refine wl_gyes rfl rfl ?_
 refine o_y (y_shr rfl rfl (by omega)) rfl rfl ?_
 refine wl_gyes rfl rfl ?_
 refine o_y (y_neq rfl rfl) rfl rfl ?_
 refine wl_splitp (t := 14) rfl (fun h1_11 => ?_) (fun h1_11 => ?_)
 refine wl_gyes rfl rfl ?_
 refine o_y (y_pick_f rfl rfl) rfl rfl ?_
 refine o_y (y_pick_t rfl rfl) rfl rfl ?_
 refine wl_nil ?_
 refine e_seq ?_
 refine w_cond_t rfl ?_
 refine w_seq ?_
 refine w_region ?_
 refine o_y (y_assign rfl) rfl rfl ?_
 refine wl_nil ?_
 refine e_seq ?_
 refine w_ret ?_
 refine e_seq_ret ?_
 refine e_ret (ts := [2]) rfl rfl rfl (fun w hw => ?_)
 rw [shr32 h0] at h1_11
 exact ⟨by rw [ck_bad h1_1 (.inr h1_11)]; rfl, hw.base⟩
 refine wl_gyes rfl rfl ?_
 refine o_y (y_pick_f rfl rfl) rfl rfl ?_
 refine o_y (y_pick_t rfl rfl) rfl rfl ?_
 refine wl_nil ?_
 refine e_seq ?_
 refine w_cond_f rfl ?_
 refine w_skip ?_
 refine e_seq ?_
 refine w_seq ?_
 refine w_region ?_
 refine o_y (y_assign rfl) rfl rfl ?_
 refine wl_nil ?_
 refine e_seq ?_
 refine w_ret ?_
 refine e_ret (ts := [2]) rfl rfl rfl (fun w hw => ?_)
 rw [shr32 h0] at h1_11
 exact ⟨by rw [ck_ok h1_6 h1_11]; rfl, hw.base⟩

theorem c_ref04_Check (a : Ad) (h0 : 0 ≤ a.lo) : Pure Tryz.prog 65 #[.agg (adC a).toArray] (.int .i64 (addrCk a)) := by
 intro w0
 refine calls_of_W (ok0 := no) (S := []) (args := [.agg (adC a).toArray]) 16 Tryz.func65 rfl rfl rfl (by simp) (by simp) ?_
 refine w_seq ?_
 refine w_region ?_
 refine o_box rfl rfl rfl (fun b1 => ?_)
 refine o_y (y_assign rfl) rfl rfl ?_
 refine wl_nil ?_
 refine e_seq ?_
 refine w_seq ?_
 refine w_seq ?_
 refine w_region ?_
 refine o_y (y_field fa_28_0 rfl) rfl rfl ?_
 refine o_y (y_loadr 0 ty_4 rfl rfl rfl) rfl rfl ?_
 refine wl_splitb (t := 4) rfl (fun h1_1 => ?_) (fun h1_1 => ?_)
 refine o_y (y_not rfl) rfl rfl ?_
 refine o_y (y_move rfl) rfl rfl ?_
 refine wl_gno rfl rfl rfl rfl ?_
 refine wl_gno rfl rfl rfl rfl ?_
 refine wl_gno rfl rfl rfl rfl ?_
 refine wl_gno rfl rfl rfl rfl ?_
 refine wl_gnou rfl rfl rfl ?_
 refine wl_gnou rfl rfl rfl ?_
 refine wl_gnou rfl rfl rfl ?_
 refine wl_gno rfl rfl rfl rfl ?_
 refine o_y (y_pick_f rfl rfl) rfl rfl ?_
 refine wl_nil ?_
 refine e_seq ?_
 refine w_cond_f rfl ?_
 refine w_skip ?_
 refine e_seq ?_
 refine w_seq ?_
 refine w_region ?_
 refine o_y (y_assign rfl) rfl rfl ?_
 refine wl_nil ?_
 refine e_seq ?_
 refine w_ret ?_
 refine e_ret (ts := [2]) rfl rfl rfl (fun w hw => ?_)
 exact ⟨by rw [ck_six h1_1]; rfl, hw.base⟩
 refine o_y (y_not rfl) rfl rfl ?_
 refine o_y (y_move rfl) rfl rfl ?_
 refine wl_gyes rfl rfl ?_
 refine o_y (y_field fa_28_1 rfl) rfl rfl ?_
 refine wl_gyes rfl rfl ?_
 refine o_y (y_loadr 0 ty_26 rfl rfl rfl) rfl rfl ?_
 refine wl_gyes rfl rfl ?_
 refine o_y (y_neq rfl rfl) rfl rfl ?_
 refine wl_splitp (t := 9) rfl (fun h1_6 => ?_) (fun h1_6 => ?_)
 refine wl_gyes rfl rfl ?_
 refine o_y (y_move rfl) rfl rfl ?_
 refine wl_gno rfl rfl rfl rfl ?_
 refine wl_gno rfl rfl rfl rfl ?_
 refine wl_gno rfl rfl rfl rfl ?_
 refine wl_gyes rfl rfl ?_
 refine o_y (y_pick_t rfl rfl) rfl rfl ?_
 refine o_y (y_pick_t rfl rfl) rfl rfl ?_
 refine wl_nil ?_
 refine e_seq ?_
 refine w_cond_t rfl ?_
 refine w_seq ?_
 refine w_region ?_
 refine o_y (y_assign rfl) rfl rfl ?_
 refine wl_nil ?_
 refine e_seq ?_
 refine w_ret ?_
 refine e_seq_ret ?_
 refine e_ret (ts := [2]) rfl rfl rfl (fun w hw => ?_)
 exact ⟨by rw [ck_bad h1_1 (.inl h1_6)]; rfl, hw.base⟩
 refine wl_gyes rfl rfl ?_
 refine o_y (y_move rfl) rfl rfl ?_
 refine wl_gyes rfl rfl ?_
 refine o_y (y_field fa_28_2 rfl) rfl rfl ?_
 refine wl_gyes rfl rfl ?_
 refine o_y (y_loadr 0 ty_26 rfl rfl rfl) rfl rfl ?_
 refine wl_gyes rfl rfl ?_
 refine o_y (y_geq rfl rfl) rfl rfl ?_
 refine wl_splitp (t := 13) rfl (fun h1_10 => ?_) (fun h1_10 => ?_)
 refine wl_gyes rfl rfl ?_
 refine o_y (y_pick_f rfl rfl) rfl rfl ?_
 refine o_y (y_pick_t rfl rfl) rfl rfl ?_
 refine wl_nil ?_
 refine e_seq ?_
 refine w_cond_t rfl ?_
 refine w_seq ?_
 refine w_region ?_
 refine o_y (y_assign rfl) rfl rfl ?_
 refine wl_nil ?_
 refine e_seq ?_
 refine w_ret ?_
 refine e_seq_ret ?_
 refine e_ret (ts := [2]) rfl rfl rfl (fun w hw => ?_)
 exact ⟨by rw [ck_bad h1_1 (.inr h1_10)]; rfl, hw.base⟩
 refine wl_gyes rfl rfl ?_
 refine o_y (y_pick_f rfl rfl) rfl rfl ?_
 refine o_y (y_pick_t rfl rfl) rfl rfl ?_
 refine wl_nil ?_
 refine e_seq ?_
 refine w_cond_f rfl ?_
 refine w_skip ?_
 refine e_seq ?_
 refine w_seq ?_
 refine w_region ?_
 refine o_y (y_assign rfl) rfl rfl ?_
 refine wl_nil ?_
 refine e_seq ?_
 refine w_ret ?_
 refine e_ret (ts := [2]) rfl rfl rfl (fun w hw => ?_)
 exact ⟨by rw [ck_ok h1_6 h1_10]; rfl, hw.base⟩

theorem ports_bad {l : List Int} {k : Nat} (hk : k < l.length) (h : ¬ portOk l k) : portsOk l = false := by
  simp only [portsOk, Bool.and_eq_false_iff, decide_eq_false_iff_not]
  exact .inl fun h2 => h (h2 k hk)
theorem ports_end {l : List Int} (h : ∀ i, i < l.length → portOk l i) : portsOk l = decide (l.length ≤ 8) := by
  rw [portsOk, decide_eq_true h, Bool.true_and]
theorem all_succ {p : Nat → Prop} {k : Nat} (h : ∀ i, i < k → p i) (hk : p k) : ∀ i, i < k + 1 → p i := fun i hi => by
  by_cases e : i = k
  · rw [e]; exact hk
  · exact h i (by omega)

theorem c_entry_ports (l : List Int) (B : Option Addr) (d : Nat) (hl : l.length ≤ 1000000000000) : RC Tryz.prog 128 #[.slice B l.length d] [Ch.rd B 1 enci l] (α := Unit) (fun _ => .bool (portsOk l)) (fun _ => []) := by
 refine rc_of_W (args := [.slice B l.length d]) 35 Tryz.func128 rfl rfl rfl (fun w0 => ?_)
 refine w_seq ?_
 refine w_region ?_
 refine o_y (y_assign rfl) rfl rfl ?_
 refine wl_nil ?_
 refine e_seq ?_
 refine w_seq ?_
 refine w_seq ?_
 refine w_region ?_
 refine o_y (y_move rfl) rfl rfl ?_
 refine o_y (y_lenl Tryz.underlying44 rfl) rfl rfl ?_
 refine o_y (y_move rfl) rfl rfl ?_
 refine wl_nil ?_
 refine e_seq ?_
 refine w_block ?_
 refine w_loop0 (σ := Nat) [2, 3, 4, 7, 8, 9, 10, 11, 12, 13, 14, 15, 16, 17, 18, 19, 20, 21, 22, 23, 24, 25, 26, 27, 28, 29, 30, 31] (fun k => k ≤ l.length ∧ ∀ i, i < k → portOk l i) (fun k => l.length - k) (fun k => [(7, .int .i64 k)]) (0) ?_ ⟨rfl, trivial⟩ (fun k hI => ?_)
 exact ⟨Nat.zero_le _, nofun⟩
 refine w_seq ?_
 refine w_region ?_
 refine o_y (y_lss rfl rfl) rfl rfl ?_
 refine wl_splitp (t := 8) rfl (fun h2_0 => ?_) (fun h2_0 => ?_)
 refine wl_nil ?_
 refine e_seq ?_
 refine w_seq ?_
 refine w_cond_t rfl ?_
 refine w_skip ?_
 refine e_seq ?_
 refine w_seq ?_
 refine w_block ?_
 refine w_seq ?_
 refine w_region ?_
 refine o_y (y_move rfl) rfl rfl ?_
 refine o_y (y_ixm  Tryz.underlying44 ty_3 rfl rfl (rs_S 0 rfl) rfl (by omega)) rfl rfl ?_
 refine o_y (y_ldm0 enc_i (0 : Int) ty_3 rfl (rs_S 0 rfl) (by omega) rfl rfl) rfl rfl ?_
 refine o_y (y_assign rfl) rfl rfl ?_
 refine o_y (y_assign rfl) rfl rfl ?_
 refine wl_nil ?_
 refine e_seq ?_
 refine w_seq ?_
 refine w_region ?_
 refine o_y (y_move rfl) rfl rfl ?_
 refine o_y (y_lss rfl rfl) rfl rfl ?_
 refine wl_splitp (t := 13) rfl (fun h4_1 => ?_) (fun h4_1 => ?_)
 refine o_y (y_move rfl) rfl rfl ?_
 refine wl_gno rfl rfl rfl rfl ?_
 refine wl_gno rfl rfl rfl rfl ?_
 refine o_y (y_pick_t rfl rfl) rfl rfl ?_
 refine o_y (y_move rfl) rfl rfl ?_
 refine wl_gno rfl rfl rfl rfl ?_
 refine wl_gno rfl rfl rfl rfl ?_
 refine wl_gno rfl rfl rfl rfl ?_
 refine wl_gnou rfl rfl rfl ?_
 refine wl_gnou rfl rfl rfl ?_
 refine wl_gnou rfl rfl rfl ?_
 refine wl_gnou rfl rfl rfl ?_
 refine wl_gnou rfl rfl rfl ?_
 refine wl_gnou rfl rfl rfl ?_
 refine wl_gnou rfl rfl rfl ?_
 refine wl_gno rfl rfl rfl rfl ?_
 refine o_y (y_pick_t rfl rfl) rfl rfl ?_
 refine wl_nil ?_
 refine e_seq ?_
 refine w_cond_t rfl ?_
 refine w_seq ?_
 refine w_region ?_
 refine o_y (y_assign rfl) rfl rfl ?_
 refine wl_nil ?_
 refine e_seq ?_
 refine w_ret ?_
 refine e_blk_ret ?_
 refine e_seq_ret ?_
 refine e_loop_ret ?_
 refine e_blk_ret ?_
 refine e_seq_ret ?_
 refine e_ret (ts := [2]) rfl rfl rfl (fun w hw => ?_)
 focus first
   | exact ⟨(), by rw [ports_bad (k := k) (by omega) (fun h => by have h1 := h.1; have h2 := h.2.1; have h3 := h.2.2; omega)]; rfl, hw.base, hw.toNews⟩
   | (have hk : k = l.length := by omega
      subst hk
      exact ⟨(), by rw [ports_end hI.2]; show Ending.returned (.bool _) = _; congr 2; rw [decide_eq_decide]; omega, hw.base, hw.toNews⟩)
 refine o_y (y_move rfl) rfl rfl ?_
 refine wl_gyes rfl rfl ?_
 refine o_y (y_move rfl) rfl rfl ?_
 refine wl_gyes rfl rfl ?_
 refine o_y (y_gtr rfl rfl) rfl rfl ?_
 refine wl_splitp (t := 16) rfl (fun h4_4 => ?_) (fun h4_4 => ?_)
 refine o_y (y_pick_f rfl rfl) rfl rfl ?_
 refine o_y (y_move rfl) rfl rfl ?_
 refine wl_gno rfl rfl rfl rfl ?_
 refine wl_gno rfl rfl rfl rfl ?_
 refine wl_gno rfl rfl rfl rfl ?_
 refine wl_gnou rfl rfl rfl ?_
 refine wl_gnou rfl rfl rfl ?_
 refine wl_gnou rfl rfl rfl ?_
 refine wl_gnou rfl rfl rfl ?_
 refine wl_gnou rfl rfl rfl ?_
 refine wl_gnou rfl rfl rfl ?_
 refine wl_gnou rfl rfl rfl ?_
 refine wl_gno rfl rfl rfl rfl ?_
 refine o_y (y_pick_t rfl rfl) rfl rfl ?_
 refine wl_nil ?_
 refine e_seq ?_
 refine w_cond_t rfl ?_
 refine w_seq ?_
 refine w_region ?_
 refine o_y (y_assign rfl) rfl rfl ?_
 refine wl_nil ?_
 refine e_seq ?_
 refine w_ret ?_
 refine e_blk_ret ?_
 refine e_seq_ret ?_
 refine e_loop_ret ?_
 refine e_blk_ret ?_
 refine e_seq_ret ?_
 refine e_ret (ts := [2]) rfl rfl rfl (fun w hw => ?_)
 focus first
   | exact ⟨(), by rw [ports_bad (k := k) (by omega) (fun h => by have h1 := h.1; have h2 := h.2.1; have h3 := h.2.2; omega)]; rfl, hw.base, hw.toNews⟩
   | (have hk : k = l.length := by omega
      subst hk
      exact ⟨(), by rw [ports_end hI.2]; show Ending.returned (.bool _) = _; congr 2; rw [decide_eq_decide]; omega, hw.base, hw.toNews⟩)
 refine o_y (y_pick_f rfl rfl) rfl rfl ?_
 refine o_y (y_move rfl) rfl rfl ?_
 refine wl_gyes rfl rfl ?_
 refine o_y (y_move rfl) rfl rfl ?_
 refine wl_gyes rfl rfl ?_
 refine o_y (y_gtr rfl rfl) rfl rfl ?_
 refine wl_splitp (t := 20) rfl (fun h4_8 => ?_) (fun h4_8 => ?_)
 refine wl_gyes rfl rfl ?_
 refine o_y (y_move rfl) rfl rfl ?_
 refine wl_gyes rfl rfl ?_
 refine o_y (y_move rfl) rfl rfl ?_
 refine wl_gyes rfl rfl ?_
 refine o_y (y_move rfl) rfl rfl ?_
 refine wl_gyes rfl rfl ?_
 refine o_y (y_subi rfl rfl (by omega) (by omega)) rfl rfl ?_
 refine wl_gyes rfl rfl ?_
 refine o_y (y_ixm (k := k - 1) Tryz.underlying44 ty_3 rfl rfl (rs_S 0 rfl) (by omega) (by omega)) rfl rfl ?_
 refine wl_gyes rfl rfl ?_
 refine o_y (y_ldm0 enc_i (0 : Int) ty_3 rfl (rs_S 0 rfl) (by omega) rfl rfl) rfl rfl ?_
 refine wl_gyes rfl rfl ?_
 refine o_y (y_move rfl) rfl rfl ?_
 refine wl_gyes rfl rfl ?_
 refine o_y (y_geq rfl rfl) rfl rfl ?_
 refine wl_splitp (t := 28) rfl (fun h4_16 => ?_) (fun h4_16 => ?_)
 refine wl_gyes rfl rfl ?_
 refine o_y (y_pick_t rfl rfl) rfl rfl ?_
 refine o_y (y_pick_f rfl rfl) rfl rfl ?_
 refine wl_nil ?_
 refine e_seq ?_
 refine w_cond_t rfl ?_
 refine w_seq ?_
 refine w_region ?_
 refine o_y (y_assign rfl) rfl rfl ?_
 refine wl_nil ?_
 refine e_seq ?_
 refine w_ret ?_
 refine e_blk_ret ?_
 refine e_seq_ret ?_
 refine e_loop_ret ?_
 refine e_blk_ret ?_
 refine e_seq_ret ?_
 refine e_ret (ts := [2]) rfl rfl rfl (fun w hw => ?_)
 focus first
   | exact ⟨(), by rw [ports_bad (k := k) (by omega) (fun h => by have h1 := h.1; have h2 := h.2.1; have h3 := h.2.2; omega)]; rfl, hw.base, hw.toNews⟩
   | (have hk : k = l.length := by omega
      subst hk
      exact ⟨(), by rw [ports_end hI.2]; show Ending.returned (.bool _) = _; congr 2; rw [decide_eq_decide]; omega, hw.base, hw.toNews⟩)
 refine wl_gyes rfl rfl ?_
 refine o_y (y_pick_t rfl rfl) rfl rfl ?_
 refine o_y (y_pick_f rfl rfl) rfl rfl ?_
 refine wl_nil ?_
 refine e_seq ?_
 refine w_cond_f rfl ?_
 refine w_skip ?_
 refine e_blk ?_
 refine e_seq ?_
 refine w_region ?_
 refine o_y (y_addi rfl rfl (by omega) (by omega)) rfl rfl ?_
 refine o_y (y_move rfl) rfl rfl ?_
 refine wl_nil ?_
 refine e_back (k + 1) ?_ ?_ ⟨rfl, trivial⟩ (by repeat (first | exact trivial | refine ⟨rfl, ?_⟩)) (fun w h => h)
 exact ⟨by omega, all_succ hI.2 ⟨by omega, by omega, fun _ => by omega⟩⟩
 omega
 refine wl_gyes rfl rfl ?_
 refine o_y (y_move rfl) rfl rfl ?_
 refine wl_gno rfl rfl rfl rfl ?_
 refine wl_gno rfl rfl rfl rfl ?_
 refine wl_gno rfl rfl rfl rfl ?_
 refine wl_gno rfl rfl rfl rfl ?_
 refine wl_gno rfl rfl rfl rfl ?_
 refine wl_gno rfl rfl rfl rfl ?_
 refine wl_gno rfl rfl rfl rfl ?_
 refine wl_gyes rfl rfl ?_
 refine o_y (y_pick_f rfl rfl) rfl rfl ?_
 refine o_y (y_pick_f rfl rfl) rfl rfl ?_
 refine wl_nil ?_
 refine e_seq ?_
 refine w_cond_f rfl ?_
 refine w_skip ?_
 refine e_blk ?_
 refine e_seq ?_
 refine w_region ?_
 refine o_y (y_addi rfl rfl (by omega) (by omega)) rfl rfl ?_
 refine o_y (y_move rfl) rfl rfl ?_
 refine wl_nil ?_
 refine e_back (k + 1) ?_ ?_ ⟨rfl, trivial⟩ (by repeat (first | exact trivial | refine ⟨rfl, ?_⟩)) (fun w h => h)
 exact ⟨by omega, all_succ hI.2 ⟨by omega, by omega, fun _ => by omega⟩⟩
 omega
 refine wl_nil ?_
 refine e_seq ?_
 refine w_seq ?_
 refine w_cond_f rfl ?_
 refine w_exit ?_
 refine e_seq_exit ?_
 refine e_loop_exit ?_
 refine e_blk_hit ?_
 refine e_seq ?_
 refine w_seq ?_
 refine w_region ?_
 refine o_y (y_move rfl) rfl rfl ?_
 refine o_y (y_lenl Tryz.underlying44 rfl) rfl rfl ?_
 refine o_y (y_leq rfl rfl) rfl rfl ?_
 refine o_y (y_assign rfl) rfl rfl ?_
 refine wl_nil ?_
 refine e_seq ?_
 refine w_ret ?_
 refine e_ret (ts := [2]) rfl rfl rfl (fun w hw => ?_)
 focus first
   | exact ⟨(), by rw [ports_bad (k := k) (by omega) (fun h => by have h1 := h.1; have h2 := h.2.1; have h3 := h.2.2; omega)]; rfl, hw.base, hw.toNews⟩
   | (have hk : k = l.length := by omega
      subst hk
      exact ⟨(), by rw [ports_end hI.2]; show Ending.returned (.bool _) = _; congr 2; rw [decide_eq_decide]; omega, hw.base, hw.toNews⟩)

theorem lkp_upd {α β : Type} [DecidableEq α] (a b : α) (v : β) : ∀ m : List (α × β), lkp (upd m a v) b = if b = a then some v else lkp m b
  | [] => by simp [upd, lkp]
  | (c, u) :: r => by
    simp only [upd]
    by_cases h : a = c
    · subst h
      rw [if_pos rfl]
      simp only [lkp]
      by_cases hb : b = a <;> simp [hb]
    · rw [if_neg h]
      simp only [lkp, lkp_upd a b v r]
      by_cases hb : b = c
      · subst hb
        have : ¬ b = a := fun e => h e.symm
        simp [this]
      · simp [hb]
theorem ads_bad {l : List Ad} {k : Nat} (hk : k < l.length) (h : ¬ adOk l k) : adsOk l = false := by
  have : ¬ ∀ i, i < l.length → adOk l i := fun h2 => h (h2 k hk)
  rw [adsOk, decide_eq_false this]; rfl
theorem ads_end {l : List Ad} (h : ∀ i, i < l.length → adOk l i) : adsOk l = (decide (1 ≤ l.length) && decide (l.length ≤ 8)) := by
  rw [adsOk, decide_eq_true h, Bool.true_and]
theorem mem_take {l : List Ad} {k : Nat} (hk : k ≤ l.length) (a : Ad) : a ∈ l.take k ↔ ∃ j, j < k ∧ a = l.getD j ad0 := by
  rw [List.mem_take_iff_getElem]
  constructor
  · rintro ⟨i, h, e⟩
    exact ⟨i, by omega, by rw [← e]; simp [List.getD_eq_getElem?_getD, show i < l.length by omega]⟩
  · rintro ⟨j, h, e⟩
    exact ⟨j, by omega, by rw [e]; simp [List.getD_eq_getElem?_getD, show j < l.length by omega]⟩
/-- What the map of those that were seen holds. -/
def Seen (m : List (Ad × Bool)) (l : List Ad) (k : Nat) : Prop := ∀ a, lkp m a = if a ∈ l.take k then some true else none
theorem seen_zero (l : List Ad) : Seen [] l 0 := fun a => by simp [lkp]
theorem seen_succ {m : List (Ad × Bool)} {l : List Ad} {k : Nat} (h : Seen m l k) (hk : k < l.length) : Seen (upd m (l.getD k ad0) true) l (k + 1) := fun a => by
  rw [lkp_upd, h a, take_getD l ad0 k hk]
  by_cases e : a = l.getD k ad0
  · rw [if_pos e, if_pos (by simp only [List.mem_append, List.mem_singleton]; exact .inr e)]
  · rw [if_neg e]
    have h2 : (a ∈ l.take k ++ [l.getD k ad0]) ↔ a ∈ l.take k := by
      simp only [List.mem_append, List.mem_singleton]
      exact ⟨fun h => h.resolve_right e, .inl⟩
    simp only [h2]
theorem seen_val {m : List (Ad × Bool)} {l : List Ad} {k : Nat} (h : Seen m l k) (a : Ad) : ((lkp m a).map fun b : Bool => Value.bool b).getD (.bool false) = .bool (decide (a ∈ l.take k)) := by
  rw [h a]; split
  · rename_i h1; rw [decide_eq_true h1]; rfl
  · rename_i h1; rw [decide_eq_false h1]; rfl
theorem mem_getA {l : List Ad} {k : Nat} (h : k < l.length) : l.getD k ad0 ∈ l := mem_getD h

theorem c_entry_addrs (l : List Ad) (A : Option Addr) (c : Nat) (hl : l.length ≤ 1000000000000) (hw0 : ∀ a ∈ l, 0 ≤ a.lo) : RC Tryz.prog 162 #[.slice A l.length c] [Ch.rd A 3 adC l] (α := Unit) (fun _ => .bool (adsOk l)) (fun _ => []) := by
 refine rc_of_W (args := [.slice A l.length c]) 32 Tryz.func162 rfl rfl rfl (fun w0 => ?_)
 refine w_seq ?_
 refine w_region ?_
 refine o_y (y_assign rfl) rfl rfl ?_
 refine wl_nil ?_
 refine e_seq ?_
 refine w_seq ?_
 refine w_region ?_
 refine o_makeMap (fun a : Ad => .agg (adC a).toArray) (fun b : Bool => .bool b) rfl (fun r0 => ?_)
 refine o_y (y_assign rfl) rfl rfl ?_
 refine wl_nil ?_
 refine e_seq ?_
 refine w_seq ?_
 refine w_seq ?_
 refine w_region ?_
 refine o_y (y_move rfl) rfl rfl ?_
 refine o_y (y_lenl Tryz.underlying43 rfl) rfl rfl ?_
 refine o_y (y_move rfl) rfl rfl ?_
 refine wl_nil ?_
 refine e_seq ?_
 refine w_block ?_
 refine w_loop1 (σ := Nat × List (Ad × Bool)) [2, 5, 9, 10, 11, 12, 13, 14, 15, 16, 17, 18, 19, 20, 21, 22, 23] (fun q => q.1 ≤ l.length ∧ (∀ i, i < q.1 → adOk l i) ∧ Seen q.2 l q.1) (fun q => l.length - q.1) (fun q => [(9, .int .i64 q.1)]) (fun q => Ch.mp r0 (fun a : Ad => .agg (adC a).toArray) (fun b : Bool => .bool b) q.2) ((0, [])) ?_ ⟨rfl, trivial⟩ rfl (fun q hI => ?_)
 exact ⟨Nat.zero_le _, nofun, seen_zero l⟩
 obtain ⟨k, m⟩ := q
 obtain ⟨hk, hall, hseen⟩ := hI
 dsimp only at hk hall hseen ⊢
 refine w_seq ?_
 refine w_region ?_
 refine o_y (y_lss rfl rfl) rfl rfl ?_
 refine wl_splitp (t := 10) rfl (fun h3_0 => ?_) (fun h3_0 => ?_)
 refine wl_nil ?_
 refine e_seq ?_
 refine w_seq ?_
 refine w_cond_t rfl ?_
 refine w_skip ?_
 refine e_seq ?_
 refine w_seq ?_
 refine w_block ?_
 refine w_seq ?_
 refine w_region ?_
 refine o_y (y_ixm  Tryz.underlying43 ty_28 rfl rfl (rs_S 0 rfl) rfl (by omega)) rfl rfl ?_
 refine o_y (y_ldsm0 enc_ad ad0 ty_28 rfl (rs_S 0 rfl) (by omega) rfl rfl rfl) rfl rfl ?_
 refine o_alloc ty_28 rfl rfl (fun b2 => ?_)
 refine o_store ty_28 rfl rfl rfl .z rfl rfl rfl rfl ?_
 refine wl_nil ?_
 refine e_seq ?_
 refine w_seq ?_
 refine w_seq ?_
 refine w_region ?_
 refine o_y (y_move rfl) rfl rfl ?_
 refine o_y (y_loadrs 0 ty_28 rfl rfl rfl rfl) rfl rfl ?_
 refine o_y (y_lookup Tryz.underlying219 keyl_ad ty_4 rfl rfl (fun w hw => hw.own _ (List.mem_of_getElem? (i := 1) rfl))) rfl rfl ?_
 refine wl_as (t := 15) (.bool (decide (l.getD k ad0 ∈ l.take k))) rfl (seen_val hseen _) ?_
 refine wl_splitb (t := 15) rfl (fun h5_2 => ?_) (fun h5_2 => ?_)
 refine o_y (y_move rfl) rfl rfl ?_
 refine wl_gno rfl rfl rfl rfl ?_
 refine wl_gno rfl rfl rfl rfl ?_
 refine wl_gno rfl rfl rfl rfl ?_
 refine o_y (y_pick_t rfl rfl) rfl rfl ?_
 refine wl_nil ?_
 refine e_seq ?_
 refine w_cond_t rfl ?_
 refine w_seq ?_
 refine w_region ?_
 refine o_y (y_assign rfl) rfl rfl ?_
 refine wl_nil ?_
 refine e_seq ?_
 refine w_ret ?_
 refine e_seq_ret ?_
 refine e_blk_ret ?_
 refine e_seq_ret ?_
 refine e_loop_ret ?_
 refine e_blk_ret ?_
 refine e_seq_ret ?_
 refine e_ret (ts := [2]) rfl rfl rfl (fun w hw => ?_)
 have hb : adsOk l = false := ads_bad (k := k) (by omega) (fun h => by obtain ⟨j, hj, e⟩ := (mem_take hk _).1 (of_decide_eq_true h5_2); exact h.2 j hj e)
 exact ⟨(), by rw [hb]; rfl, hw.base, (hw.weak (List.nil_sublist _) (fun s hs => hs)).toNews⟩
 refine o_y (y_move rfl) rfl rfl ?_
 refine wl_gyes rfl rfl ?_
 refine o_y (y_loadrs 0 ty_28 rfl rfl rfl rfl) rfl rfl ?_
 refine wl_gyes rfl rfl ?_
 refine o_callp rfl ent_52 (c_addr_Check _ (hw0 _ (mem_getA (by omega)))) rfl ?_
 refine wl_gyes rfl rfl ?_
 refine o_y (y_neq rfl rfl) rfl rfl ?_
 refine wl_splitp (t := 19) rfl (fun h5_6 => ?_) (fun h5_6 => ?_)
 refine o_y (y_pick_f rfl rfl) rfl rfl ?_
 refine wl_nil ?_
 refine e_seq ?_
 refine w_cond_t rfl ?_
 refine w_seq ?_
 refine w_region ?_
 refine o_y (y_assign rfl) rfl rfl ?_
 refine wl_nil ?_
 refine e_seq ?_
 refine w_ret ?_
 refine e_seq_ret ?_
 refine e_blk_ret ?_
 refine e_seq_ret ?_
 refine e_loop_ret ?_
 refine e_blk_ret ?_
 refine e_seq_ret ?_
 refine e_ret (ts := [2]) rfl rfl rfl (fun w hw => ?_)
 have hb : adsOk l = false := ads_bad (k := k) (by omega) (fun h => h5_6 h.1)
 exact ⟨(), by rw [hb]; rfl, hw.base, (hw.weak (List.nil_sublist _) (fun s hs => hs)).toNews⟩
 refine o_y (y_pick_f rfl rfl) rfl rfl ?_
 refine wl_nil ?_
 refine e_seq ?_
 refine w_cond_f rfl ?_
 refine w_skip ?_
 refine e_seq ?_
 refine w_region ?_
 refine o_y (y_move rfl) rfl rfl ?_
 refine o_y (y_loadrs 0 ty_28 rfl rfl rfl rfl) rfl rfl ?_
 refine o_mapUpd Tryz.underlying219 keyl_ad rfl rfl rfl (.s (.z)) ?_
 refine wl_nil ?_
 refine e_blk ?_
 refine e_seq ?_
 refine w_region ?_
 refine o_y (y_addi rfl rfl (by omega) (by omega)) rfl rfl ?_
 refine o_y (y_move rfl) rfl rfl ?_
 refine wl_nil ?_
 refine e_back ((k + 1, upd m (l.getD k ad0) true)) ?_ ?_ ⟨rfl, trivial⟩ (by repeat (first | exact trivial | refine ⟨rfl, ?_⟩)) (fun w h => h.weak (.cons _ (List.Sublist.refl _)) (fun s hs => hs))
 exact ⟨by show k + 1 ≤ _; omega, all_succ hall ⟨by omega, fun j hj e => of_decide_eq_false h5_2 ((mem_take (by omega) _).2 ⟨j, hj, e⟩)⟩, seen_succ hseen (by omega)⟩
 show l.length - (k + 1) < l.length - k
 omega
 refine wl_nil ?_
 refine e_seq ?_
 refine w_seq ?_
 refine w_cond_f rfl ?_
 refine w_exit ?_
 refine e_seq_exit ?_
 refine e_loop_exit ?_
 refine e_blk_hit ?_
 refine e_seq ?_
 refine w_seq ?_
 refine w_region ?_
 refine o_y (y_move rfl) rfl rfl ?_
 refine o_y (y_lenl Tryz.underlying43 rfl) rfl rfl ?_
 refine o_y (y_geq rfl rfl) rfl rfl ?_
 refine wl_splitp (t := 26) rfl (fun h9_2 => ?_) (fun h9_2 => ?_)
 refine o_y (y_move rfl) rfl rfl ?_
 refine wl_gyes rfl rfl ?_
 refine o_y (y_move rfl) rfl rfl ?_
 refine wl_gyes rfl rfl ?_
 refine o_y (y_lenl Tryz.underlying43 rfl) rfl rfl ?_
 refine wl_gyes rfl rfl ?_
 refine o_y (y_leq rfl rfl) rfl rfl ?_
 refine o_y (y_pick_t rfl rfl) rfl rfl ?_
 refine o_y (y_assign rfl) rfl rfl ?_
 refine wl_nil ?_
 refine e_seq ?_
 refine w_ret ?_
 refine e_ret (ts := [2]) rfl rfl rfl (fun w hw => ?_)
 obtain rfl : k = l.length := by omega
 exact ⟨(), by rw [ads_end hall, decide_eq_true (by omega : 1 ≤ l.length)]; show Ending.returned (.bool _) = _; congr 2; rw [Bool.true_and, decide_eq_decide]; omega, hw.base, (hw.weak (List.nil_sublist _) (fun s hs => hs)).toNews⟩
 refine o_y (y_move rfl) rfl rfl ?_
 refine wl_gno rfl rfl rfl rfl ?_
 refine wl_gno rfl rfl rfl rfl ?_
 refine wl_gno rfl rfl rfl rfl ?_
 refine o_y (y_pick_f rfl rfl) rfl rfl ?_
 refine o_y (y_assign rfl) rfl rfl ?_
 refine wl_nil ?_
 refine e_seq ?_
 refine w_ret ?_
 refine e_ret (ts := [2]) rfl rfl rfl (fun w hw => ?_)
 obtain rfl : k = l.length := by omega
 exact ⟨(), by rw [ads_end hall, decide_eq_false (by omega : ¬ 1 ≤ l.length)]; rfl, hw.base, (hw.weak (List.nil_sublist _) (fun s hs => hs)).toNews⟩

theorem c_slHasPrefix (s t : Str) : Pure Tryz.prog 181 #[.string (ba s), .string (ba t)] (.bool (decide (t <+: s))) := by
 intro w0
 refine calls_of_W (ok0 := no) (S := []) (args := [.string (ba s), .string (ba t)]) 18 Tryz.func181 rfl rfl rfl (by simp) (by simp) ?_
 refine w_seq ?_
 refine w_region ?_
 refine o_y (y_assign rfl) rfl rfl ?_
 refine wl_nil ?_
 refine e_seq ?_
 refine w_seq ?_
 refine w_region ?_
 refine o_y (y_move rfl) rfl rfl ?_
 refine o_y (y_lens Tryz.underlying9 rfl) rfl rfl ?_
 refine o_y (y_move rfl) rfl rfl ?_
 refine o_y (y_lens Tryz.underlying9 rfl) rfl rfl ?_
 refine o_y (y_geq rfl rfl) rfl rfl ?_
 refine wl_splitp (t := 9) rfl (fun h1_4 => ?_) (fun h1_4 => ?_)
 refine o_y (y_move rfl) rfl rfl ?_
 refine wl_gyes rfl rfl ?_
 refine o_y (y_move rfl) rfl rfl ?_
 refine wl_gyes rfl rfl ?_
 refine o_y (y_move rfl) rfl rfl ?_
 refine wl_gyes rfl rfl ?_
 refine o_y (y_lens Tryz.underlying9 rfl) rfl rfl ?_
 refine wl_gyes rfl rfl ?_
 refine o_y (y_slices_hi (n := t.length) Tryz.underlying9 rfl rfl (by omega) (by omega)) rfl rfl ?_
 refine wl_gyes rfl rfl ?_
 refine o_y (y_move rfl) rfl rfl ?_
 refine wl_gyes rfl rfl ?_
 refine o_y (y_eqls rfl rfl) rfl rfl ?_
 refine o_y (y_pick_t rfl rfl) rfl rfl ?_
 refine o_y (y_assign rfl) rfl rfl ?_
 refine wl_nil ?_
 refine e_seq ?_
 refine w_ret ?_
 refine e_ret (ts := [4]) rfl rfl rfl (fun w hw => ?_)
 refine ⟨?_, hw.base⟩
 show Ending.returned (.bool _) = _
 congr 2
 focus first
   | (rw [decide_eq_decide, List.prefix_iff_eq_take]; exact eq_comm)
   | (rw [decide_eq_false_iff_not]; intro h; have := h.length_le; omega)
   | (symm; rw [decide_eq_false_iff_not]; intro h; have := h.length_le; omega)
 refine o_y (y_move rfl) rfl rfl ?_
 refine wl_gno rfl rfl rfl rfl ?_
 refine wl_gno rfl rfl rfl rfl ?_
 refine wl_gno rfl rfl rfl rfl ?_
 refine wl_gno rfl rfl rfl rfl ?_
 refine wl_gno rfl rfl rfl rfl ?_
 refine wl_gno rfl rfl rfl rfl ?_
 refine o_y (y_pick_f rfl rfl) rfl rfl ?_
 refine o_y (y_assign rfl) rfl rfl ?_
 refine wl_nil ?_
 refine e_seq ?_
 refine w_ret ?_
 refine e_ret (ts := [4]) rfl rfl rfl (fun w hw => ?_)
 refine ⟨?_, hw.base⟩
 show Ending.returned (.bool _) = _
 congr 2
 focus first
   | (rw [decide_eq_decide, List.prefix_iff_eq_take]; exact eq_comm)
   | (rw [decide_eq_false_iff_not]; intro h; have := h.length_le; omega)
   | (symm; rw [decide_eq_false_iff_not]; intro h; have := h.length_le; omega)

theorem c_HasPrefix (s t : Str) : Pure Tryz.prog 176 #[.string (ba s), .string (ba t)] (.bool (decide (t <+: s))) := by
 intro w0
 refine calls_of_W (ok0 := no) (S := []) (args := [.string (ba s), .string (ba t)]) 8 Tryz.func176 rfl rfl rfl (by simp) (by simp) ?_
 refine w_seq ?_
 refine w_region ?_
 refine o_y (y_assign rfl) rfl rfl ?_
 refine wl_nil ?_
 refine e_seq ?_
 refine w_seq ?_
 refine w_region ?_
 refine o_y (y_move rfl) rfl rfl ?_
 refine o_y (y_move rfl) rfl rfl ?_
 refine o_callp rfl ent_181 (c_slHasPrefix _ _) rfl ?_
 refine o_y (y_assign rfl) rfl rfl ?_
 refine wl_nil ?_
 refine e_seq ?_
 refine w_ret ?_
 refine e_ret (ts := [4]) rfl rfl rfl (fun w hw => ?_)
 exact ⟨rfl, hw.base⟩

theorem c_name_Wild (n : Str) : Pure Tryz.prog 163 #[.string (ba n)] (.bool (wildN n)) := by
 intro w0
 refine calls_of_W (ok0 := no) (S := []) (args := [.string (ba n)]) 10 Tryz.func163 rfl rfl rfl (by simp) (by simp) ?_
 refine w_seq ?_
 refine w_region ?_
 refine o_y (y_assign rfl) rfl rfl ?_
 refine wl_nil ?_
 refine e_seq ?_
 refine w_seq ?_
 refine w_region ?_
 refine o_y (y_move rfl) rfl rfl ?_
 refine o_callp rfl ent_51 (c_name_Check _) rfl ?_
 refine o_y (y_eql rfl rfl) rfl rfl ?_
 refine wl_splitp (t := 5) rfl (fun h1_2 => ?_) (fun h1_2 => ?_)
 refine o_y (y_move rfl) rfl rfl ?_
 refine wl_gyes rfl rfl ?_
 refine o_y (y_move rfl) rfl rfl ?_
 refine wl_gyes rfl rfl ?_
 refine o_callp rfl ent_176 (c_HasPrefix _ [1, 42]) rfl ?_
 refine o_y (y_pick_t rfl rfl) rfl rfl ?_
 refine o_y (y_assign rfl) rfl rfl ?_
 refine wl_nil ?_
 refine e_seq ?_
 refine w_ret ?_
 refine e_ret (ts := [2]) rfl rfl rfl (fun w hw => ?_)
 refine ⟨?_, hw.base⟩
 show Ending.returned (.bool _) = _
 congr 2
 focus first
   | (rw [wildN, decide_eq_true (by omega : nameCk n = 0), Bool.true_and])
   | (rw [wildN, decide_eq_false (by omega : ¬ nameCk n = 0)]; rfl)
 refine o_y (y_move rfl) rfl rfl ?_
 refine wl_gno rfl rfl rfl rfl ?_
 refine wl_gno rfl rfl rfl rfl ?_
 refine o_y (y_pick_f rfl rfl) rfl rfl ?_
 refine o_y (y_assign rfl) rfl rfl ?_
 refine wl_nil ?_
 refine e_seq ?_
 refine w_ret ?_
 refine e_ret (ts := [2]) rfl rfl rfl (fun w hw => ?_)
 refine ⟨?_, hw.base⟩
 show Ending.returned (.bool _) = _
 congr 2
 focus first
   | (rw [wildN, decide_eq_true (by omega : nameCk n = 0), Bool.true_and])
   | (rw [wildN, decide_eq_false (by omega : ¬ nameCk n = 0)]; rfl)

theorem c_entry_may (e : En) (A B : Option Addr) (c d : Nat) (hwa : ∀ a ∈ e.addrs, 0 ≤ a.lo) (hla : e.addrs.length ≤ 1000000000000) (hlp : e.ports.length ≤ 1000000000000) (hk : -9223372036854775808 ≤ e.kind ∧ e.kind ≤ 9223372036854775807) : RC Tryz.prog 129 #[.agg (enC e A B c d).toArray] [Ch.rd A 3 adC e.addrs, Ch.rd B 1 enci e.ports] (α := Unit) (fun _ => .bool (mayOk e)) (fun _ => []) := by
 refine rc_of_W (args := [.agg (enC e A B c d).toArray]) 63 Tryz.func129 rfl rfl rfl (fun w0 => ?_)
 refine w_seq ?_
 refine w_region ?_
 refine o_box rfl rfl rfl (fun b1 => ?_)
 refine o_y (y_assign rfl) rfl rfl ?_
 refine wl_nil ?_
 refine e_seq ?_
 refine w_seq ?_
 refine w_seq ?_
 refine w_region ?_
 refine o_y (y_field fa_47_1 rfl) rfl rfl ?_
 refine o_y (y_loadr 0 ty_3 rfl rfl rfl) rfl rfl ?_
 refine wl_nil ?_
 refine e_seq ?_
 refine w_block ?_
 refine w_seq ?_
 refine w_block ?_
 refine w_seq ?_
 refine w_block ?_
 refine w_seq ?_
 refine w_block ?_
 refine w_seq ?_
 refine w_seq ?_
 refine w_seq ?_
 refine w_region ?_
 refine o_y (y_eql rfl rfl) rfl rfl ?_
 refine wl_splitp (t := 6) rfl (fun h2_0 => ?_) (fun h2_0 => ?_)
 refine o_y (y_assign rfl) rfl rfl ?_
 refine wl_nil ?_
 refine e_seq ?_
 refine w_cond_t rfl ?_
 refine w_exit ?_
 refine e_seq_exit ?_
 refine e_seq_exit ?_
 refine e_blk_hit ?_
 refine e_seq ?_
 refine w_seq ?_
 refine w_seq ?_
 refine w_region ?_
 refine o_y (y_field fa_47_3 rfl) rfl rfl ?_
 refine o_y (y_loadr 0 ty_43 rfl rfl rfl) rfl rfl ?_
 refine o_callq rfl ent_162 rfl (c_entry_addrs _ _ _ (by omega) hwa) (fun w hw => (rd_cons (rd_S 0 rfl hw) rd_nil)) ?_
 refine wl_splitb (t := 13) rfl (fun h5_2 => ?_) (fun h5_2 => ?_)
 refine o_y (y_not rfl) rfl rfl ?_
 refine wl_nil ?_
 refine e_seq ?_
 refine w_cond_f rfl ?_
 refine w_skip ?_
 refine e_seq ?_
 refine w_region ?_
 refine o_y (y_field fa_47_3 rfl) rfl rfl ?_
 refine o_store ty_43 rfl rfl rfl .z rfl rfl rfl rfl ?_
 refine wl_nil ?_
 refine e_blk ?_
 refine e_seq ?_
 refine w_seq ?_
 refine w_seq ?_
 refine w_region ?_
 refine o_y (y_field fa_47_3 rfl) rfl rfl ?_
 refine o_y (y_loadr 0 ty_43 rfl rfl rfl) rfl rfl ?_
 refine o_y (y_lenl Tryz.underlying43 rfl) rfl rfl ?_
 refine o_y (y_eql rfl rfl) rfl rfl ?_
 refine wl_splitp (t := 19) rfl (fun h8_3 => ?_) (fun h8_3 => ?_)
 refine o_y (y_move rfl) rfl rfl ?_
 refine wl_gyes rfl rfl ?_
 refine o_y (y_field fa_47_4 rfl) rfl rfl ?_
 refine wl_gyes rfl rfl ?_
 refine o_y (y_loadr 0 ty_36 rfl rfl rfl) rfl rfl ?_
 refine wl_gyes rfl rfl ?_
 refine o_y (y_eqls rfl rfl) rfl rfl ?_
 refine wl_splitp (t := 23) rfl (fun h8_7 => ?_) (fun h8_7 => ?_)
 refine o_y (y_pick_t rfl rfl) rfl rfl ?_
 refine o_y (y_move rfl) rfl rfl ?_
 refine wl_gyes rfl rfl ?_
 refine o_y (y_field fa_47_2 rfl) rfl rfl ?_
 refine wl_gyes rfl rfl ?_
 refine o_y (y_loadr 0 ty_9 rfl rfl rfl) rfl rfl ?_
 refine wl_gyes rfl rfl ?_
 refine o_callp rfl ent_135 (c_label_Check _) rfl ?_
 refine wl_gyes rfl rfl ?_
 refine o_y (y_eql rfl rfl) rfl rfl ?_
 refine o_y (y_pick_t rfl rfl) rfl rfl ?_
 refine o_y (y_assign rfl) rfl rfl ?_
 refine wl_nil ?_
 refine e_seq ?_
 refine w_ret ?_
 refine e_seq_ret ?_
 refine e_blk_ret ?_
 refine e_seq_ret ?_
 refine e_blk_ret ?_
 refine e_seq_ret ?_
 refine e_ret (ts := [2]) rfl rfl rfl (fun w hw => ?_)
 refine ⟨(), ?_, hw.base, (hw.weak (List.nil_sublist _) (fun s hs => hs)).toNews⟩
 show Ending.returned (.bool _) = _
 congr 2
 focus first
   | (exfalso; omega)
   | (simp [mayOk, *]
      done)
   | (have q0 : e.addrs = [] := List.length_eq_zero_iff.1 (by omega)
      simp [mayOk, *]
      done)
   | (have q0 : ¬ e.addrs = [] := by
        intro h; have h9 := congrArg List.length h; rw [List.length_nil] at h9; omega
      simp [mayOk, *]
      done)
   | (have q0 : e.ports = [] := List.length_eq_zero_iff.1 (by omega)
      simp [mayOk, *]
      done)
   | (have q0 : ¬ e.ports = [] := by
        intro h; have h9 := congrArg List.length h; rw [List.length_nil] at h9; omega
      simp [mayOk, *]
      done)
   | (have q0 : e.addrs = [] := List.length_eq_zero_iff.1 (by omega)
      have q1 : e.ports = [] := List.length_eq_zero_iff.1 (by omega)
      simp [mayOk, *]
      done)
   | (have q0 : e.addrs = [] := List.length_eq_zero_iff.1 (by omega)
      have q1 : ¬ e.ports = [] := by
        intro h; have h9 := congrArg List.length h; rw [List.length_nil] at h9; omega
      simp [mayOk, *]
      done)
   | (have q0 : ¬ e.addrs = [] := by
        intro h; have h9 := congrArg List.length h; rw [List.length_nil] at h9; omega
      have q1 : e.ports = [] := List.length_eq_zero_iff.1 (by omega)
      simp [mayOk, *]
      done)
   | (have q0 : ¬ e.addrs = [] := by
        intro h; have h9 := congrArg List.length h; rw [List.length_nil] at h9; omega
      have q1 : ¬ e.ports = [] := by
        intro h; have h9 := congrArg List.length h; rw [List.length_nil] at h9; omega
      simp [mayOk, *]
      done)
   | (trace_state; fail)
 refine o_y (y_pick_t rfl rfl) rfl rfl ?_
 refine o_y (y_move rfl) rfl rfl ?_
 refine wl_gno rfl rfl rfl rfl ?_
 refine wl_gno rfl rfl rfl rfl ?_
 refine wl_gno rfl rfl rfl rfl ?_
 refine wl_gno rfl rfl rfl rfl ?_
 refine o_y (y_pick_f rfl rfl) rfl rfl ?_
 refine o_y (y_assign rfl) rfl rfl ?_
 refine wl_nil ?_
 refine e_seq ?_
 refine w_ret ?_
 refine e_seq_ret ?_
 refine e_blk_ret ?_
 refine e_seq_ret ?_
 refine e_blk_ret ?_
 refine e_seq_ret ?_
 refine e_ret (ts := [2]) rfl rfl rfl (fun w hw => ?_)
 refine ⟨(), ?_, hw.base, (hw.weak (List.nil_sublist _) (fun s hs => hs)).toNews⟩
 show Ending.returned (.bool _) = _
 congr 2
 focus first
   | (exfalso; omega)
   | (simp [mayOk, *]
      done)
   | (have q0 : e.addrs = [] := List.length_eq_zero_iff.1 (by omega)
      simp [mayOk, *]
      done)
   | (have q0 : ¬ e.addrs = [] := by
        intro h; have h9 := congrArg List.length h; rw [List.length_nil] at h9; omega
      simp [mayOk, *]
      done)
   | (have q0 : e.ports = [] := List.length_eq_zero_iff.1 (by omega)
      simp [mayOk, *]
      done)
   | (have q0 : ¬ e.ports = [] := by
        intro h; have h9 := congrArg List.length h; rw [List.length_nil] at h9; omega
      simp [mayOk, *]
      done)
   | (have q0 : e.addrs = [] := List.length_eq_zero_iff.1 (by omega)
      have q1 : e.ports = [] := List.length_eq_zero_iff.1 (by omega)
      simp [mayOk, *]
      done)
   | (have q0 : e.addrs = [] := List.length_eq_zero_iff.1 (by omega)
      have q1 : ¬ e.ports = [] := by
        intro h; have h9 := congrArg List.length h; rw [List.length_nil] at h9; omega
      simp [mayOk, *]
      done)
   | (have q0 : ¬ e.addrs = [] := by
        intro h; have h9 := congrArg List.length h; rw [List.length_nil] at h9; omega
      have q1 : e.ports = [] := List.length_eq_zero_iff.1 (by omega)
      simp [mayOk, *]
      done)
   | (have q0 : ¬ e.addrs = [] := by
        intro h; have h9 := congrArg List.length h; rw [List.length_nil] at h9; omega
      have q1 : ¬ e.ports = [] := by
        intro h; have h9 := congrArg List.length h; rw [List.length_nil] at h9; omega
      simp [mayOk, *]
      done)
   | (trace_state; fail)
 refine o_y (y_move rfl) rfl rfl ?_
 refine wl_gno rfl rfl rfl rfl ?_
 refine wl_gno rfl rfl rfl rfl ?_
 refine wl_gno rfl rfl rfl rfl ?_
 refine o_y (y_pick_f rfl rfl) rfl rfl ?_
 refine o_y (y_move rfl) rfl rfl ?_
 refine wl_gno rfl rfl rfl rfl ?_
 refine wl_gno rfl rfl rfl rfl ?_
 refine wl_gno rfl rfl rfl rfl ?_
 refine wl_gno rfl rfl rfl rfl ?_
 refine o_y (y_pick_f rfl rfl) rfl rfl ?_
 refine o_y (y_assign rfl) rfl rfl ?_
 refine wl_nil ?_
 refine e_seq ?_
 refine w_ret ?_
 refine e_seq_ret ?_
 refine e_blk_ret ?_
 refine e_seq_ret ?_
 refine e_blk_ret ?_
 refine e_seq_ret ?_
 refine e_ret (ts := [2]) rfl rfl rfl (fun w hw => ?_)
 refine ⟨(), ?_, hw.base, (hw.weak (List.nil_sublist _) (fun s hs => hs)).toNews⟩
 show Ending.returned (.bool _) = _
 congr 2
 focus first
   | (exfalso; omega)
   | (simp [mayOk, *]
      done)
   | (have q0 : e.addrs = [] := List.length_eq_zero_iff.1 (by omega)
      simp [mayOk, *]
      done)
   | (have q0 : ¬ e.addrs = [] := by
        intro h; have h9 := congrArg List.length h; rw [List.length_nil] at h9; omega
      simp [mayOk, *]
      done)
   | (have q0 : e.ports = [] := List.length_eq_zero_iff.1 (by omega)
      simp [mayOk, *]
      done)
   | (have q0 : ¬ e.ports = [] := by
        intro h; have h9 := congrArg List.length h; rw [List.length_nil] at h9; omega
      simp [mayOk, *]
      done)
   | (have q0 : e.addrs = [] := List.length_eq_zero_iff.1 (by omega)
      have q1 : e.ports = [] := List.length_eq_zero_iff.1 (by omega)
      simp [mayOk, *]
      done)
   | (have q0 : e.addrs = [] := List.length_eq_zero_iff.1 (by omega)
      have q1 : ¬ e.ports = [] := by
        intro h; have h9 := congrArg List.length h; rw [List.length_nil] at h9; omega
      simp [mayOk, *]
      done)
   | (have q0 : ¬ e.addrs = [] := by
        intro h; have h9 := congrArg List.length h; rw [List.length_nil] at h9; omega
      have q1 : e.ports = [] := List.length_eq_zero_iff.1 (by omega)
      simp [mayOk, *]
      done)
   | (have q0 : ¬ e.addrs = [] := by
        intro h; have h9 := congrArg List.length h; rw [List.length_nil] at h9; omega
      have q1 : ¬ e.ports = [] := by
        intro h; have h9 := congrArg List.length h; rw [List.length_nil] at h9; omega
      simp [mayOk, *]
      done)
   | (trace_state; fail)
 refine o_y (y_not rfl) rfl rfl ?_
 refine wl_nil ?_
 refine e_seq ?_
 refine w_cond_t rfl ?_
 refine w_seq ?_
 refine w_region ?_
 refine o_y (y_assign rfl) rfl rfl ?_
 refine wl_nil ?_
 refine e_seq ?_
 refine w_ret ?_
 refine e_seq_ret ?_
 refine e_blk_ret ?_
 refine e_seq_ret ?_
 refine e_blk_ret ?_
 refine e_seq_ret ?_
 refine e_blk_ret ?_
 refine e_seq_ret ?_
 refine e_ret (ts := [2]) rfl rfl rfl (fun w hw => ?_)
 refine ⟨(), ?_, hw.base, (hw.weak (List.nil_sublist _) (fun s hs => hs)).toNews⟩
 show Ending.returned (.bool _) = _
 congr 2
 focus first
   | (exfalso; omega)
   | (simp [mayOk, *]
      done)
   | (have q0 : e.addrs = [] := List.length_eq_zero_iff.1 (by omega)
      simp [mayOk, *]
      done)
   | (have q0 : ¬ e.addrs = [] := by
        intro h; have h9 := congrArg List.length h; rw [List.length_nil] at h9; omega
      simp [mayOk, *]
      done)
   | (have q0 : e.ports = [] := List.length_eq_zero_iff.1 (by omega)
      simp [mayOk, *]
      done)
   | (have q0 : ¬ e.ports = [] := by
        intro h; have h9 := congrArg List.length h; rw [List.length_nil] at h9; omega
      simp [mayOk, *]
      done)
   | (have q0 : e.addrs = [] := List.length_eq_zero_iff.1 (by omega)
      have q1 : e.ports = [] := List.length_eq_zero_iff.1 (by omega)
      simp [mayOk, *]
      done)
   | (have q0 : e.addrs = [] := List.length_eq_zero_iff.1 (by omega)
      have q1 : ¬ e.ports = [] := by
        intro h; have h9 := congrArg List.length h; rw [List.length_nil] at h9; omega
      simp [mayOk, *]
      done)
   | (have q0 : ¬ e.addrs = [] := by
        intro h; have h9 := congrArg List.length h; rw [List.length_nil] at h9; omega
      have q1 : e.ports = [] := List.length_eq_zero_iff.1 (by omega)
      simp [mayOk, *]
      done)
   | (have q0 : ¬ e.addrs = [] := by
        intro h; have h9 := congrArg List.length h; rw [List.length_nil] at h9; omega
      have q1 : ¬ e.ports = [] := by
        intro h; have h9 := congrArg List.length h; rw [List.length_nil] at h9; omega
      simp [mayOk, *]
      done)
   | (trace_state; fail)
 refine o_y (y_assign rfl) rfl rfl ?_
 refine wl_nil ?_
 refine e_seq ?_
 refine w_cond_f rfl ?_
 refine w_skip ?_
 refine e_seq ?_
 refine w_seq ?_
 refine w_seq ?_
 refine w_region ?_
 refine o_y (y_eql rfl rfl) rfl rfl ?_
 refine wl_splitp (t := 8) rfl (fun h3_0 => ?_) (fun h3_0 => ?_)
 refine o_y (y_assign rfl) rfl rfl ?_
 refine wl_nil ?_
 refine e_seq ?_
 refine w_cond_t rfl ?_
 refine w_exit ?_
 refine e_seq_exit ?_
 refine e_seq_exit ?_
 refine e_blk_miss rfl ?_
 refine e_seq_exit ?_
 refine e_blk_hit ?_
 refine e_seq ?_
 refine w_seq ?_
 refine w_seq ?_
 refine w_region ?_
 refine o_y (y_field fa_47_3 rfl) rfl rfl ?_
 refine o_y (y_loadr 0 ty_43 rfl rfl rfl) rfl rfl ?_
 refine o_y (y_lenl Tryz.underlying43 rfl) rfl rfl ?_
 refine o_y (y_eql rfl rfl) rfl rfl ?_
 refine wl_splitp (t := 19) rfl (fun h8_3 => ?_) (fun h8_3 => ?_)
 refine o_y (y_move rfl) rfl rfl ?_
 refine wl_gyes rfl rfl ?_
 refine o_y (y_field fa_47_4 rfl) rfl rfl ?_
 refine wl_gyes rfl rfl ?_
 refine o_y (y_loadr 0 ty_36 rfl rfl rfl) rfl rfl ?_
 refine wl_gyes rfl rfl ?_
 refine o_y (y_eqls rfl rfl) rfl rfl ?_
 refine wl_splitp (t := 23) rfl (fun h8_7 => ?_) (fun h8_7 => ?_)
 refine o_y (y_pick_t rfl rfl) rfl rfl ?_
 refine o_y (y_move rfl) rfl rfl ?_
 refine wl_gyes rfl rfl ?_
 refine o_y (y_field fa_47_2 rfl) rfl rfl ?_
 refine wl_gyes rfl rfl ?_
 refine o_y (y_loadr 0 ty_9 rfl rfl rfl) rfl rfl ?_
 refine wl_gyes rfl rfl ?_
 refine o_callp rfl ent_135 (c_label_Check _) rfl ?_
 refine wl_gyes rfl rfl ?_
 refine o_y (y_eql rfl rfl) rfl rfl ?_
 refine o_y (y_pick_t rfl rfl) rfl rfl ?_
 refine o_y (y_assign rfl) rfl rfl ?_
 refine wl_nil ?_
 refine e_seq ?_
 refine w_ret ?_
 refine e_seq_ret ?_
 refine e_blk_ret ?_
 refine e_seq_ret ?_
 refine e_blk_ret ?_
 refine e_seq_ret ?_
 refine e_ret (ts := [2]) rfl rfl rfl (fun w hw => ?_)
 refine ⟨(), ?_, hw.base, (hw.weak (List.nil_sublist _) (fun s hs => hs)).toNews⟩
 show Ending.returned (.bool _) = _
 congr 2
 focus first
   | (exfalso; omega)
   | (simp [mayOk, *]
      done)
   | (have q0 : e.addrs = [] := List.length_eq_zero_iff.1 (by omega)
      simp [mayOk, *]
      done)
   | (have q0 : ¬ e.addrs = [] := by
        intro h; have h9 := congrArg List.length h; rw [List.length_nil] at h9; omega
      simp [mayOk, *]
      done)
   | (have q0 : e.ports = [] := List.length_eq_zero_iff.1 (by omega)
      simp [mayOk, *]
      done)
   | (have q0 : ¬ e.ports = [] := by
        intro h; have h9 := congrArg List.length h; rw [List.length_nil] at h9; omega
      simp [mayOk, *]
      done)
   | (have q0 : e.addrs = [] := List.length_eq_zero_iff.1 (by omega)
      have q1 : e.ports = [] := List.length_eq_zero_iff.1 (by omega)
      simp [mayOk, *]
      done)
   | (have q0 : e.addrs = [] := List.length_eq_zero_iff.1 (by omega)
      have q1 : ¬ e.ports = [] := by
        intro h; have h9 := congrArg List.length h; rw [List.length_nil] at h9; omega
      simp [mayOk, *]
      done)
   | (have q0 : ¬ e.addrs = [] := by
        intro h; have h9 := congrArg List.length h; rw [List.length_nil] at h9; omega
      have q1 : e.ports = [] := List.length_eq_zero_iff.1 (by omega)
      simp [mayOk, *]
      done)
   | (have q0 : ¬ e.addrs = [] := by
        intro h; have h9 := congrArg List.length h; rw [List.length_nil] at h9; omega
      have q1 : ¬ e.ports = [] := by
        intro h; have h9 := congrArg List.length h; rw [List.length_nil] at h9; omega
      simp [mayOk, *]
      done)
   | (trace_state; fail)
 refine o_y (y_pick_t rfl rfl) rfl rfl ?_
 refine o_y (y_move rfl) rfl rfl ?_
 refine wl_gno rfl rfl rfl rfl ?_
 refine wl_gno rfl rfl rfl rfl ?_
 refine wl_gno rfl rfl rfl rfl ?_
 refine wl_gno rfl rfl rfl rfl ?_
 refine o_y (y_pick_f rfl rfl) rfl rfl ?_
 refine o_y (y_assign rfl) rfl rfl ?_
 refine wl_nil ?_
 refine e_seq ?_
 refine w_ret ?_
 refine e_seq_ret ?_
 refine e_blk_ret ?_
 refine e_seq_ret ?_
 refine e_blk_ret ?_
 refine e_seq_ret ?_
 refine e_ret (ts := [2]) rfl rfl rfl (fun w hw => ?_)
 refine ⟨(), ?_, hw.base, (hw.weak (List.nil_sublist _) (fun s hs => hs)).toNews⟩
 show Ending.returned (.bool _) = _
 congr 2
 focus first
   | (exfalso; omega)
   | (simp [mayOk, *]
      done)
   | (have q0 : e.addrs = [] := List.length_eq_zero_iff.1 (by omega)
      simp [mayOk, *]
      done)
   | (have q0 : ¬ e.addrs = [] := by
        intro h; have h9 := congrArg List.length h; rw [List.length_nil] at h9; omega
      simp [mayOk, *]
      done)
   | (have q0 : e.ports = [] := List.length_eq_zero_iff.1 (by omega)
      simp [mayOk, *]
      done)
   | (have q0 : ¬ e.ports = [] := by
        intro h; have h9 := congrArg List.length h; rw [List.length_nil] at h9; omega
      simp [mayOk, *]
      done)
   | (have q0 : e.addrs = [] := List.length_eq_zero_iff.1 (by omega)
      have q1 : e.ports = [] := List.length_eq_zero_iff.1 (by omega)
      simp [mayOk, *]
      done)
   | (have q0 : e.addrs = [] := List.length_eq_zero_iff.1 (by omega)
      have q1 : ¬ e.ports = [] := by
        intro h; have h9 := congrArg List.length h; rw [List.length_nil] at h9; omega
      simp [mayOk, *]
      done)
   | (have q0 : ¬ e.addrs = [] := by
        intro h; have h9 := congrArg List.length h; rw [List.length_nil] at h9; omega
      have q1 : e.ports = [] := List.length_eq_zero_iff.1 (by omega)
      simp [mayOk, *]
      done)
   | (have q0 : ¬ e.addrs = [] := by
        intro h; have h9 := congrArg List.length h; rw [List.length_nil] at h9; omega
      have q1 : ¬ e.ports = [] := by
        intro h; have h9 := congrArg List.length h; rw [List.length_nil] at h9; omega
      simp [mayOk, *]
      done)
   | (trace_state; fail)
 refine o_y (y_move rfl) rfl rfl ?_
 refine wl_gno rfl rfl rfl rfl ?_
 refine wl_gno rfl rfl rfl rfl ?_
 refine wl_gno rfl rfl rfl rfl ?_
 refine o_y (y_pick_f rfl rfl) rfl rfl ?_
 refine o_y (y_move rfl) rfl rfl ?_
 refine wl_gno rfl rfl rfl rfl ?_
 refine wl_gno rfl rfl rfl rfl ?_
 refine wl_gno rfl rfl rfl rfl ?_
 refine wl_gno rfl rfl rfl rfl ?_
 refine o_y (y_pick_f rfl rfl) rfl rfl ?_
 refine o_y (y_assign rfl) rfl rfl ?_
 refine wl_nil ?_
 refine e_seq ?_
 refine w_ret ?_
 refine e_seq_ret ?_
 refine e_blk_ret ?_
 refine e_seq_ret ?_
 refine e_blk_ret ?_
 refine e_seq_ret ?_
 refine e_ret (ts := [2]) rfl rfl rfl (fun w hw => ?_)
 refine ⟨(), ?_, hw.base, (hw.weak (List.nil_sublist _) (fun s hs => hs)).toNews⟩
 show Ending.returned (.bool _) = _
 congr 2
 focus first
   | (exfalso; omega)
   | (simp [mayOk, *]
      done)
   | (have q0 : e.addrs = [] := List.length_eq_zero_iff.1 (by omega)
      simp [mayOk, *]
      done)
   | (have q0 : ¬ e.addrs = [] := by
        intro h; have h9 := congrArg List.length h; rw [List.length_nil] at h9; omega
      simp [mayOk, *]
      done)
   | (have q0 : e.ports = [] := List.length_eq_zero_iff.1 (by omega)
      simp [mayOk, *]
      done)
   | (have q0 : ¬ e.ports = [] := by
        intro h; have h9 := congrArg List.length h; rw [List.length_nil] at h9; omega
      simp [mayOk, *]
      done)
   | (have q0 : e.addrs = [] := List.length_eq_zero_iff.1 (by omega)
      have q1 : e.ports = [] := List.length_eq_zero_iff.1 (by omega)
      simp [mayOk, *]
      done)
   | (have q0 : e.addrs = [] := List.length_eq_zero_iff.1 (by omega)
      have q1 : ¬ e.ports = [] := by
        intro h; have h9 := congrArg List.length h; rw [List.length_nil] at h9; omega
      simp [mayOk, *]
      done)
   | (have q0 : ¬ e.addrs = [] := by
        intro h; have h9 := congrArg List.length h; rw [List.length_nil] at h9; omega
      have q1 : e.ports = [] := List.length_eq_zero_iff.1 (by omega)
      simp [mayOk, *]
      done)
   | (have q0 : ¬ e.addrs = [] := by
        intro h; have h9 := congrArg List.length h; rw [List.length_nil] at h9; omega
      have q1 : ¬ e.ports = [] := by
        intro h; have h9 := congrArg List.length h; rw [List.length_nil] at h9; omega
      simp [mayOk, *]
      done)
   | (trace_state; fail)
 refine o_y (y_assign rfl) rfl rfl ?_
 refine wl_nil ?_
 refine e_seq ?_
 refine w_cond_f rfl ?_
 refine w_skip ?_
 refine e_seq ?_
 refine w_seq ?_
 refine w_region ?_
 refine o_y (y_eql rfl rfl) rfl rfl ?_
 refine wl_splitp (t := 10) rfl (fun h4_0 => ?_) (fun h4_0 => ?_)
 refine o_y (y_assign rfl) rfl rfl ?_
 refine wl_nil ?_
 refine e_seq ?_
 refine w_cond_t rfl ?_
 refine w_exit ?_
 refine e_seq_exit ?_
 refine e_blk_miss rfl ?_
 refine e_seq_exit ?_
 refine e_blk_miss rfl ?_
 refine e_seq_exit ?_
 refine e_blk_hit ?_
 refine e_seq ?_
 refine w_seq ?_
 refine w_seq ?_
 refine w_region ?_
 refine o_y (y_field fa_47_3 rfl) rfl rfl ?_
 refine o_y (y_loadr 0 ty_43 rfl rfl rfl) rfl rfl ?_
 refine o_y (y_lenl Tryz.underlying43 rfl) rfl rfl ?_
 refine o_y (y_eql rfl rfl) rfl rfl ?_
 refine wl_splitp (t := 34) rfl (fun h9_3 => ?_) (fun h9_3 => ?_)
 refine o_y (y_move rfl) rfl rfl ?_
 refine wl_gyes rfl rfl ?_
 refine o_y (y_field fa_47_5 rfl) rfl rfl ?_
 refine wl_gyes rfl rfl ?_
 refine o_y (y_loadr 0 ty_44 rfl rfl rfl) rfl rfl ?_
 refine wl_gyes rfl rfl ?_
 refine o_y (y_lenl Tryz.underlying44 rfl) rfl rfl ?_
 refine wl_gyes rfl rfl ?_
 refine o_y (y_eql rfl rfl) rfl rfl ?_
 refine wl_splitp (t := 39) rfl (fun h9_8 => ?_) (fun h9_8 => ?_)
 refine o_y (y_pick_t rfl rfl) rfl rfl ?_
 refine o_y (y_move rfl) rfl rfl ?_
 refine wl_gyes rfl rfl ?_
 refine o_y (y_field fa_47_2 rfl) rfl rfl ?_
 refine wl_gyes rfl rfl ?_
 refine o_y (y_loadr 0 ty_9 rfl rfl rfl) rfl rfl ?_
 refine wl_gyes rfl rfl ?_
 refine o_y (y_eqls rfl rfl) rfl rfl ?_
 refine wl_splitp (t := 44) rfl (fun h9_13 => ?_) (fun h9_13 => ?_)
 refine o_y (y_pick_t rfl rfl) rfl rfl ?_
 refine o_y (y_move rfl) rfl rfl ?_
 refine wl_gyes rfl rfl ?_
 refine o_y (y_field fa_47_4 rfl) rfl rfl ?_
 refine wl_gyes rfl rfl ?_
 refine o_y (y_loadr 0 ty_36 rfl rfl rfl) rfl rfl ?_
 refine wl_gyes rfl rfl ?_
 refine o_y (y_neqs rfl rfl) rfl rfl ?_
 refine wl_splitp (t := 49) rfl (fun h9_18 => ?_) (fun h9_18 => ?_)
 refine o_y (y_pick_t rfl rfl) rfl rfl ?_
 refine o_y (y_move rfl) rfl rfl ?_
 refine wl_gyes rfl rfl ?_
 refine o_y (y_field fa_47_4 rfl) rfl rfl ?_
 refine wl_gyes rfl rfl ?_
 refine o_y (y_loadr 0 ty_36 rfl rfl rfl) rfl rfl ?_
 refine wl_gyes rfl rfl ?_
 refine o_callp rfl ent_51 (c_name_Check _) rfl ?_
 refine wl_gyes rfl rfl ?_
 refine o_y (y_eql rfl rfl) rfl rfl ?_
 refine wl_splitp (t := 55) rfl (fun h9_24 => ?_) (fun h9_24 => ?_)
 refine o_y (y_pick_t rfl rfl) rfl rfl ?_
 refine o_y (y_move rfl) rfl rfl ?_
 refine wl_gyes rfl rfl ?_
 refine o_y (y_field fa_47_4 rfl) rfl rfl ?_
 refine wl_gyes rfl rfl ?_
 refine o_y (y_loadr 0 ty_36 rfl rfl rfl) rfl rfl ?_
 refine wl_gyes rfl rfl ?_
 refine o_callp rfl ent_163 (c_name_Wild _) rfl ?_
 refine wl_gyes rfl rfl ?_
 refine o_y (y_not rfl) rfl rfl ?_
 refine o_y (y_pick_t rfl rfl) rfl rfl ?_
 refine o_y (y_assign rfl) rfl rfl ?_
 refine wl_nil ?_
 refine e_seq ?_
 refine w_ret ?_
 refine e_seq_ret ?_
 refine e_blk_ret ?_
 refine e_seq_ret ?_
 refine e_ret (ts := [2]) rfl rfl rfl (fun w hw => ?_)
 refine ⟨(), ?_, hw.base, (hw.weak (List.nil_sublist _) (fun s hs => hs)).toNews⟩
 show Ending.returned (.bool _) = _
 congr 2
 focus first
   | (exfalso; omega)
   | (simp [mayOk, *]
      done)
   | (have q0 : e.addrs = [] := List.length_eq_zero_iff.1 (by omega)
      simp [mayOk, *]
      done)
   | (have q0 : ¬ e.addrs = [] := by
        intro h; have h9 := congrArg List.length h; rw [List.length_nil] at h9; omega
      simp [mayOk, *]
      done)
   | (have q0 : e.ports = [] := List.length_eq_zero_iff.1 (by omega)
      simp [mayOk, *]
      done)
   | (have q0 : ¬ e.ports = [] := by
        intro h; have h9 := congrArg List.length h; rw [List.length_nil] at h9; omega
      simp [mayOk, *]
      done)
   | (have q0 : e.addrs = [] := List.length_eq_zero_iff.1 (by omega)
      have q1 : e.ports = [] := List.length_eq_zero_iff.1 (by omega)
      simp [mayOk, *]
      done)
   | (have q0 : e.addrs = [] := List.length_eq_zero_iff.1 (by omega)
      have q1 : ¬ e.ports = [] := by
        intro h; have h9 := congrArg List.length h; rw [List.length_nil] at h9; omega
      simp [mayOk, *]
      done)
   | (have q0 : ¬ e.addrs = [] := by
        intro h; have h9 := congrArg List.length h; rw [List.length_nil] at h9; omega
      have q1 : e.ports = [] := List.length_eq_zero_iff.1 (by omega)
      simp [mayOk, *]
      done)
   | (have q0 : ¬ e.addrs = [] := by
        intro h; have h9 := congrArg List.length h; rw [List.length_nil] at h9; omega
      have q1 : ¬ e.ports = [] := by
        intro h; have h9 := congrArg List.length h; rw [List.length_nil] at h9; omega
      simp [mayOk, *]
      done)
   | (trace_state; fail)
 refine o_y (y_pick_t rfl rfl) rfl rfl ?_
 refine o_y (y_move rfl) rfl rfl ?_
 refine wl_gno rfl rfl rfl rfl ?_
 refine wl_gno rfl rfl rfl rfl ?_
 refine wl_gno rfl rfl rfl rfl ?_
 refine wl_gno rfl rfl rfl rfl ?_
 refine o_y (y_pick_f rfl rfl) rfl rfl ?_
 refine o_y (y_assign rfl) rfl rfl ?_
 refine wl_nil ?_
 refine e_seq ?_
 refine w_ret ?_
 refine e_seq_ret ?_
 refine e_blk_ret ?_
 refine e_seq_ret ?_
 refine e_ret (ts := [2]) rfl rfl rfl (fun w hw => ?_)
 refine ⟨(), ?_, hw.base, (hw.weak (List.nil_sublist _) (fun s hs => hs)).toNews⟩
 show Ending.returned (.bool _) = _
 congr 2
 focus first
   | (exfalso; omega)
   | (simp [mayOk, *]
      done)
   | (have q0 : e.addrs = [] := List.length_eq_zero_iff.1 (by omega)
      simp [mayOk, *]
      done)
   | (have q0 : ¬ e.addrs = [] := by
        intro h; have h9 := congrArg List.length h; rw [List.length_nil] at h9; omega
      simp [mayOk, *]
      done)
   | (have q0 : e.ports = [] := List.length_eq_zero_iff.1 (by omega)
      simp [mayOk, *]
      done)
   | (have q0 : ¬ e.ports = [] := by
        intro h; have h9 := congrArg List.length h; rw [List.length_nil] at h9; omega
      simp [mayOk, *]
      done)
   | (have q0 : e.addrs = [] := List.length_eq_zero_iff.1 (by omega)
      have q1 : e.ports = [] := List.length_eq_zero_iff.1 (by omega)
      simp [mayOk, *]
      done)
   | (have q0 : e.addrs = [] := List.length_eq_zero_iff.1 (by omega)
      have q1 : ¬ e.ports = [] := by
        intro h; have h9 := congrArg List.length h; rw [List.length_nil] at h9; omega
      simp [mayOk, *]
      done)
   | (have q0 : ¬ e.addrs = [] := by
        intro h; have h9 := congrArg List.length h; rw [List.length_nil] at h9; omega
      have q1 : e.ports = [] := List.length_eq_zero_iff.1 (by omega)
      simp [mayOk, *]
      done)
   | (have q0 : ¬ e.addrs = [] := by
        intro h; have h9 := congrArg List.length h; rw [List.length_nil] at h9; omega
      have q1 : ¬ e.ports = [] := by
        intro h; have h9 := congrArg List.length h; rw [List.length_nil] at h9; omega
      simp [mayOk, *]
      done)
   | (trace_state; fail)
 refine o_y (y_pick_t rfl rfl) rfl rfl ?_
 refine o_y (y_move rfl) rfl rfl ?_
 refine wl_gno rfl rfl rfl rfl ?_
 refine wl_gno rfl rfl rfl rfl ?_
 refine wl_gno rfl rfl rfl rfl ?_
 refine wl_gno rfl rfl rfl rfl ?_
 refine o_y (y_pick_f rfl rfl) rfl rfl ?_
 refine o_y (y_move rfl) rfl rfl ?_
 refine wl_gno rfl rfl rfl rfl ?_
 refine wl_gno rfl rfl rfl rfl ?_
 refine wl_gno rfl rfl rfl rfl ?_
 refine wl_gno rfl rfl rfl rfl ?_
 refine o_y (y_pick_f rfl rfl) rfl rfl ?_
 refine o_y (y_assign rfl) rfl rfl ?_
 refine wl_nil ?_
 refine e_seq ?_
 refine w_ret ?_
 refine e_seq_ret ?_
 refine e_blk_ret ?_
 refine e_seq_ret ?_
 refine e_ret (ts := [2]) rfl rfl rfl (fun w hw => ?_)
 refine ⟨(), ?_, hw.base, (hw.weak (List.nil_sublist _) (fun s hs => hs)).toNews⟩
 show Ending.returned (.bool _) = _
 congr 2
 focus first
   | (exfalso; omega)
   | (simp [mayOk, *]
      done)
   | (have q0 : e.addrs = [] := List.length_eq_zero_iff.1 (by omega)
      simp [mayOk, *]
      done)
   | (have q0 : ¬ e.addrs = [] := by
        intro h; have h9 := congrArg List.length h; rw [List.length_nil] at h9; omega
      simp [mayOk, *]
      done)
   | (have q0 : e.ports = [] := List.length_eq_zero_iff.1 (by omega)
      simp [mayOk, *]
      done)
   | (have q0 : ¬ e.ports = [] := by
        intro h; have h9 := congrArg List.length h; rw [List.length_nil] at h9; omega
      simp [mayOk, *]
      done)
   | (have q0 : e.addrs = [] := List.length_eq_zero_iff.1 (by omega)
      have q1 : e.ports = [] := List.length_eq_zero_iff.1 (by omega)
      simp [mayOk, *]
      done)
   | (have q0 : e.addrs = [] := List.length_eq_zero_iff.1 (by omega)
      have q1 : ¬ e.ports = [] := by
        intro h; have h9 := congrArg List.length h; rw [List.length_nil] at h9; omega
      simp [mayOk, *]
      done)
   | (have q0 : ¬ e.addrs = [] := by
        intro h; have h9 := congrArg List.length h; rw [List.length_nil] at h9; omega
      have q1 : e.ports = [] := List.length_eq_zero_iff.1 (by omega)
      simp [mayOk, *]
      done)
   | (have q0 : ¬ e.addrs = [] := by
        intro h; have h9 := congrArg List.length h; rw [List.length_nil] at h9; omega
      have q1 : ¬ e.ports = [] := by
        intro h; have h9 := congrArg List.length h; rw [List.length_nil] at h9; omega
      simp [mayOk, *]
      done)
   | (trace_state; fail)
 refine o_y (y_pick_t rfl rfl) rfl rfl ?_
 refine o_y (y_move rfl) rfl rfl ?_
 refine wl_gno rfl rfl rfl rfl ?_
 refine wl_gno rfl rfl rfl rfl ?_
 refine wl_gno rfl rfl rfl rfl ?_
 refine o_y (y_pick_f rfl rfl) rfl rfl ?_
 refine o_y (y_move rfl) rfl rfl ?_
 refine wl_gno rfl rfl rfl rfl ?_
 refine wl_gno rfl rfl rfl rfl ?_
 refine wl_gno rfl rfl rfl rfl ?_
 refine wl_gno rfl rfl rfl rfl ?_
 refine o_y (y_pick_f rfl rfl) rfl rfl ?_
 refine o_y (y_move rfl) rfl rfl ?_
 refine wl_gno rfl rfl rfl rfl ?_
 refine wl_gno rfl rfl rfl rfl ?_
 refine wl_gno rfl rfl rfl rfl ?_
 refine wl_gno rfl rfl rfl rfl ?_
 refine o_y (y_pick_f rfl rfl) rfl rfl ?_
 refine o_y (y_assign rfl) rfl rfl ?_
 refine wl_nil ?_
 refine e_seq ?_
 refine w_ret ?_
 refine e_seq_ret ?_
 refine e_blk_ret ?_
 refine e_seq_ret ?_
 refine e_ret (ts := [2]) rfl rfl rfl (fun w hw => ?_)
 refine ⟨(), ?_, hw.base, (hw.weak (List.nil_sublist _) (fun s hs => hs)).toNews⟩
 show Ending.returned (.bool _) = _
 congr 2
 focus first
   | (exfalso; omega)
   | (simp [mayOk, *]
      done)
   | (have q0 : e.addrs = [] := List.length_eq_zero_iff.1 (by omega)
      simp [mayOk, *]
      done)
   | (have q0 : ¬ e.addrs = [] := by
        intro h; have h9 := congrArg List.length h; rw [List.length_nil] at h9; omega
      simp [mayOk, *]
      done)
   | (have q0 : e.ports = [] := List.length_eq_zero_iff.1 (by omega)
      simp [mayOk, *]
      done)
   | (have q0 : ¬ e.ports = [] := by
        intro h; have h9 := congrArg List.length h; rw [List.length_nil] at h9; omega
      simp [mayOk, *]
      done)
   | (have q0 : e.addrs = [] := List.length_eq_zero_iff.1 (by omega)
      have q1 : e.ports = [] := List.length_eq_zero_iff.1 (by omega)
      simp [mayOk, *]
      done)
   | (have q0 : e.addrs = [] := List.length_eq_zero_iff.1 (by omega)
      have q1 : ¬ e.ports = [] := by
        intro h; have h9 := congrArg List.length h; rw [List.length_nil] at h9; omega
      simp [mayOk, *]
      done)
   | (have q0 : ¬ e.addrs = [] := by
        intro h; have h9 := congrArg List.length h; rw [List.length_nil] at h9; omega
      have q1 : e.ports = [] := List.length_eq_zero_iff.1 (by omega)
      simp [mayOk, *]
      done)
   | (have q0 : ¬ e.addrs = [] := by
        intro h; have h9 := congrArg List.length h; rw [List.length_nil] at h9; omega
      have q1 : ¬ e.ports = [] := by
        intro h; have h9 := congrArg List.length h; rw [List.length_nil] at h9; omega
      simp [mayOk, *]
      done)
   | (trace_state; fail)
 refine o_y (y_pick_t rfl rfl) rfl rfl ?_
 refine o_y (y_move rfl) rfl rfl ?_
 refine wl_gno rfl rfl rfl rfl ?_
 refine wl_gno rfl rfl rfl rfl ?_
 refine wl_gno rfl rfl rfl rfl ?_
 refine o_y (y_pick_f rfl rfl) rfl rfl ?_
 refine o_y (y_move rfl) rfl rfl ?_
 refine wl_gno rfl rfl rfl rfl ?_
 refine wl_gno rfl rfl rfl rfl ?_
 refine wl_gno rfl rfl rfl rfl ?_
 refine o_y (y_pick_f rfl rfl) rfl rfl ?_
 refine o_y (y_move rfl) rfl rfl ?_
 refine wl_gno rfl rfl rfl rfl ?_
 refine wl_gno rfl rfl rfl rfl ?_
 refine wl_gno rfl rfl rfl rfl ?_
 refine wl_gno rfl rfl rfl rfl ?_
 refine o_y (y_pick_f rfl rfl) rfl rfl ?_
 refine o_y (y_move rfl) rfl rfl ?_
 refine wl_gno rfl rfl rfl rfl ?_
 refine wl_gno rfl rfl rfl rfl ?_
 refine wl_gno rfl rfl rfl rfl ?_
 refine wl_gno rfl rfl rfl rfl ?_
 refine o_y (y_pick_f rfl rfl) rfl rfl ?_
 refine o_y (y_assign rfl) rfl rfl ?_
 refine wl_nil ?_
 refine e_seq ?_
 refine w_ret ?_
 refine e_seq_ret ?_
 refine e_blk_ret ?_
 refine e_seq_ret ?_
 refine e_ret (ts := [2]) rfl rfl rfl (fun w hw => ?_)
 refine ⟨(), ?_, hw.base, (hw.weak (List.nil_sublist _) (fun s hs => hs)).toNews⟩
 show Ending.returned (.bool _) = _
 congr 2
 focus first
   | (exfalso; omega)
   | (simp [mayOk, *]
      done)
   | (have q0 : e.addrs = [] := List.length_eq_zero_iff.1 (by omega)
      simp [mayOk, *]
      done)
   | (have q0 : ¬ e.addrs = [] := by
        intro h; have h9 := congrArg List.length h; rw [List.length_nil] at h9; omega
      simp [mayOk, *]
      done)
   | (have q0 : e.ports = [] := List.length_eq_zero_iff.1 (by omega)
      simp [mayOk, *]
      done)
   | (have q0 : ¬ e.ports = [] := by
        intro h; have h9 := congrArg List.length h; rw [List.length_nil] at h9; omega
      simp [mayOk, *]
      done)
   | (have q0 : e.addrs = [] := List.length_eq_zero_iff.1 (by omega)
      have q1 : e.ports = [] := List.length_eq_zero_iff.1 (by omega)
      simp [mayOk, *]
      done)
   | (have q0 : e.addrs = [] := List.length_eq_zero_iff.1 (by omega)
      have q1 : ¬ e.ports = [] := by
        intro h; have h9 := congrArg List.length h; rw [List.length_nil] at h9; omega
      simp [mayOk, *]
      done)
   | (have q0 : ¬ e.addrs = [] := by
        intro h; have h9 := congrArg List.length h; rw [List.length_nil] at h9; omega
      have q1 : e.ports = [] := List.length_eq_zero_iff.1 (by omega)
      simp [mayOk, *]
      done)
   | (have q0 : ¬ e.addrs = [] := by
        intro h; have h9 := congrArg List.length h; rw [List.length_nil] at h9; omega
      have q1 : ¬ e.ports = [] := by
        intro h; have h9 := congrArg List.length h; rw [List.length_nil] at h9; omega
      simp [mayOk, *]
      done)
   | (trace_state; fail)
 refine o_y (y_move rfl) rfl rfl ?_
 refine wl_gno rfl rfl rfl rfl ?_
 refine wl_gno rfl rfl rfl rfl ?_
 refine wl_gno rfl rfl rfl rfl ?_
 refine wl_gno rfl rfl rfl rfl ?_
 refine o_y (y_pick_f rfl rfl) rfl rfl ?_
 refine o_y (y_move rfl) rfl rfl ?_
 refine wl_gno rfl rfl rfl rfl ?_
 refine wl_gno rfl rfl rfl rfl ?_
 refine wl_gno rfl rfl rfl rfl ?_
 refine o_y (y_pick_f rfl rfl) rfl rfl ?_
 refine o_y (y_move rfl) rfl rfl ?_
 refine wl_gno rfl rfl rfl rfl ?_
 refine wl_gno rfl rfl rfl rfl ?_
 refine wl_gno rfl rfl rfl rfl ?_
 refine o_y (y_pick_f rfl rfl) rfl rfl ?_
 refine o_y (y_move rfl) rfl rfl ?_
 refine wl_gno rfl rfl rfl rfl ?_
 refine wl_gno rfl rfl rfl rfl ?_
 refine wl_gno rfl rfl rfl rfl ?_
 refine wl_gno rfl rfl rfl rfl ?_
 refine o_y (y_pick_f rfl rfl) rfl rfl ?_
 refine o_y (y_move rfl) rfl rfl ?_
 refine wl_gno rfl rfl rfl rfl ?_
 refine wl_gno rfl rfl rfl rfl ?_
 refine wl_gno rfl rfl rfl rfl ?_
 refine wl_gno rfl rfl rfl rfl ?_
 refine o_y (y_pick_f rfl rfl) rfl rfl ?_
 refine o_y (y_assign rfl) rfl rfl ?_
 refine wl_nil ?_
 refine e_seq ?_
 refine w_ret ?_
 refine e_seq_ret ?_
 refine e_blk_ret ?_
 refine e_seq_ret ?_
 refine e_ret (ts := [2]) rfl rfl rfl (fun w hw => ?_)
 refine ⟨(), ?_, hw.base, (hw.weak (List.nil_sublist _) (fun s hs => hs)).toNews⟩
 show Ending.returned (.bool _) = _
 congr 2
 focus first
   | (exfalso; omega)
   | (simp [mayOk, *]
      done)
   | (have q0 : e.addrs = [] := List.length_eq_zero_iff.1 (by omega)
      simp [mayOk, *]
      done)
   | (have q0 : ¬ e.addrs = [] := by
        intro h; have h9 := congrArg List.length h; rw [List.length_nil] at h9; omega
      simp [mayOk, *]
      done)
   | (have q0 : e.ports = [] := List.length_eq_zero_iff.1 (by omega)
      simp [mayOk, *]
      done)
   | (have q0 : ¬ e.ports = [] := by
        intro h; have h9 := congrArg List.length h; rw [List.length_nil] at h9; omega
      simp [mayOk, *]
      done)
   | (have q0 : e.addrs = [] := List.length_eq_zero_iff.1 (by omega)
      have q1 : e.ports = [] := List.length_eq_zero_iff.1 (by omega)
      simp [mayOk, *]
      done)
   | (have q0 : e.addrs = [] := List.length_eq_zero_iff.1 (by omega)
      have q1 : ¬ e.ports = [] := by
        intro h; have h9 := congrArg List.length h; rw [List.length_nil] at h9; omega
      simp [mayOk, *]
      done)
   | (have q0 : ¬ e.addrs = [] := by
        intro h; have h9 := congrArg List.length h; rw [List.length_nil] at h9; omega
      have q1 : e.ports = [] := List.length_eq_zero_iff.1 (by omega)
      simp [mayOk, *]
      done)
   | (have q0 : ¬ e.addrs = [] := by
        intro h; have h9 := congrArg List.length h; rw [List.length_nil] at h9; omega
      have q1 : ¬ e.ports = [] := by
        intro h; have h9 := congrArg List.length h; rw [List.length_nil] at h9; omega
      simp [mayOk, *]
      done)
   | (trace_state; fail)
 refine o_y (y_assign rfl) rfl rfl ?_
 refine wl_nil ?_
 refine e_seq ?_
 refine w_cond_f rfl ?_
 refine w_skip ?_
 refine e_seq ?_
 refine w_exit ?_
 refine e_blk_miss rfl ?_
 refine e_seq_exit ?_
 refine e_blk_miss rfl ?_
 refine e_seq_exit ?_
 refine e_blk_miss rfl ?_
 refine e_seq_exit ?_
 refine e_blk_hit ?_
 refine e_seq ?_
 refine w_seq ?_
 refine w_region ?_
 refine o_y (y_assign rfl) rfl rfl ?_
 refine wl_nil ?_
 refine e_seq ?_
 refine w_ret ?_
 refine e_ret (ts := [2]) rfl rfl rfl (fun w hw => ?_)
 refine ⟨(), ?_, hw.base, (hw.weak (List.nil_sublist _) (fun s hs => hs)).toNews⟩
 show Ending.returned (.bool _) = _
 congr 2
 focus first
   | (exfalso; omega)
   | (simp [mayOk, *]
      done)
   | (have q0 : e.addrs = [] := List.length_eq_zero_iff.1 (by omega)
      simp [mayOk, *]
      done)
   | (have q0 : ¬ e.addrs = [] := by
        intro h; have h9 := congrArg List.length h; rw [List.length_nil] at h9; omega
      simp [mayOk, *]
      done)
   | (have q0 : e.ports = [] := List.length_eq_zero_iff.1 (by omega)
      simp [mayOk, *]
      done)
   | (have q0 : ¬ e.ports = [] := by
        intro h; have h9 := congrArg List.length h; rw [List.length_nil] at h9; omega
      simp [mayOk, *]
      done)
   | (have q0 : e.addrs = [] := List.length_eq_zero_iff.1 (by omega)
      have q1 : e.ports = [] := List.length_eq_zero_iff.1 (by omega)
      simp [mayOk, *]
      done)
   | (have q0 : e.addrs = [] := List.length_eq_zero_iff.1 (by omega)
      have q1 : ¬ e.ports = [] := by
        intro h; have h9 := congrArg List.length h; rw [List.length_nil] at h9; omega
      simp [mayOk, *]
      done)
   | (have q0 : ¬ e.addrs = [] := by
        intro h; have h9 := congrArg List.length h; rw [List.length_nil] at h9; omega
      have q1 : e.ports = [] := List.length_eq_zero_iff.1 (by omega)
      simp [mayOk, *]
      done)
   | (have q0 : ¬ e.addrs = [] := by
        intro h; have h9 := congrArg List.length h; rw [List.length_nil] at h9; omega
      have q1 : ¬ e.ports = [] := by
        intro h; have h9 := congrArg List.length h; rw [List.length_nil] at h9; omega
      simp [mayOk, *]
      done)
   | (trace_state; fail)

theorem ent_host {e : En} (h1 : ¬ nameCk e.host ≠ 0) (h2 : e.host = []) : 2 = entCk e := by rw [entCk, if_neg h1, if_pos (.inl h2)]

theorem c_entry_Check (e : En) (A B : Option Addr) (c d : Nat) (hwa : ∀ a ∈ e.addrs, 0 ≤ a.lo) (hla : e.addrs.length ≤ 1000000000000) (hlp : e.ports.length ≤ 1000000000000) (hk : -9223372036854775808 ≤ e.kind ∧ e.kind ≤ 9223372036854775807) : RC Tryz.prog 88 #[.agg (enC e A B c d).toArray] [Ch.rd A 3 adC e.addrs, Ch.rd B 1 enci e.ports] (α := Unit) (fun _ => .int .i64 (entCk e)) (fun _ => []) := by
 refine rc_of_W (args := [.agg (enC e A B c d).toArray]) 29 Tryz.func88 rfl rfl rfl (fun w0 => ?_)
 refine w_seq ?_
 refine w_region ?_
 refine o_box rfl rfl rfl (fun b1 => ?_)
 refine o_y (y_assign rfl) rfl rfl ?_
 refine wl_nil ?_
 refine e_seq ?_
 refine w_seq ?_
 refine w_seq ?_
 refine w_region ?_
 refine o_y (y_field fa_47_0 rfl) rfl rfl ?_
 refine o_y (y_loadr 0 ty_36 rfl rfl rfl) rfl rfl ?_
 refine o_callp rfl ent_51 (c_name_Check _) rfl ?_
 refine o_y (y_assign rfl) rfl rfl ?_
 refine wl_nil ?_
 refine e_seq ?_
 refine w_seq ?_
 refine w_region ?_
 refine o_y (y_move rfl) rfl rfl ?_
 refine o_y (y_neq rfl rfl) rfl rfl ?_
 refine wl_splitp (t := 8) rfl (fun h2_1 => ?_) (fun h2_1 => ?_)
 refine wl_nil ?_
 refine e_seq ?_
 refine w_cond_t rfl ?_
 refine w_seq ?_
 refine w_region ?_
 refine o_y (y_move rfl) rfl rfl ?_
 refine o_y (y_assign rfl) rfl rfl ?_
 refine wl_nil ?_
 refine e_seq ?_
 refine w_ret ?_
 refine e_seq_ret ?_
 refine e_ret (ts := [2]) rfl rfl rfl (fun w hw => ?_)
 refine ⟨(), ?_, hw.base, (hw.weak (List.nil_sublist _) (fun s hs => hs)).toNews⟩
 show Ending.returned (.int _ _) = _
 congr 2
 focus first
   | exact ent_host h2_1 h4_2
   | (simp [entCk, *]
      done)
   | (have q1 : 2147483647 < e.ttl := by omega
      simp [entCk, *]
      done)
   | (have q1 : ¬ 2147483647 < e.ttl := by omega
      simp [entCk, *]
      done)
   | (trace_state; fail)
 refine wl_nil ?_
 refine e_seq ?_
 refine w_cond_f rfl ?_
 refine w_skip ?_
 refine e_seq ?_
 refine w_seq ?_
 refine w_seq ?_
 refine w_region ?_
 refine o_y (y_field fa_47_0 rfl) rfl rfl ?_
 refine o_y (y_loadr 0 ty_36 rfl rfl rfl) rfl rfl ?_
 refine o_y (y_eqls rfl rfl) rfl rfl ?_
 refine wl_splitp (t := 12) rfl (fun h4_2 => ?_) (fun h4_2 => ?_)
 refine o_y (y_move rfl) rfl rfl ?_
 refine wl_gno rfl rfl rfl rfl ?_
 refine wl_gno rfl rfl rfl rfl ?_
 refine wl_gno rfl rfl rfl rfl ?_
 refine o_y (y_pick_t rfl rfl) rfl rfl ?_
 refine o_y (y_move rfl) rfl rfl ?_
 refine wl_gno rfl rfl rfl rfl ?_
 refine wl_gno rfl rfl rfl rfl ?_
 refine wl_gno rfl rfl rfl rfl ?_
 refine wl_gno rfl rfl rfl rfl ?_
 refine o_y (y_pick_t rfl rfl) rfl rfl ?_
 refine o_y (y_move rfl) rfl rfl ?_
 refine wl_gno rfl rfl rfl rfl ?_
 refine wl_gno rfl rfl rfl rfl ?_
 refine wl_gno rfl rfl rfl rfl ?_
 refine o_y (y_pick_t rfl rfl) rfl rfl ?_
 refine wl_nil ?_
 refine e_seq ?_
 refine w_cond_t rfl ?_
 refine w_seq ?_
 refine w_region ?_
 refine o_y (y_assign rfl) rfl rfl ?_
 refine wl_nil ?_
 refine e_seq ?_
 refine w_ret ?_
 refine e_seq_ret ?_
 refine e_ret (ts := [2]) rfl rfl rfl (fun w hw => ?_)
 refine ⟨(), ?_, hw.base, (hw.weak (List.nil_sublist _) (fun s hs => hs)).toNews⟩
 show Ending.returned (.int _ _) = _
 congr 2
 focus first
   | exact ent_host h2_1 h4_2
   | (simp [entCk, *]
      done)
   | (have q1 : 2147483647 < e.ttl := by omega
      simp [entCk, *]
      done)
   | (have q1 : ¬ 2147483647 < e.ttl := by omega
      simp [entCk, *]
      done)
   | (trace_state; fail)
 refine o_y (y_move rfl) rfl rfl ?_
 refine wl_gyes rfl rfl ?_
 refine o_y (y_field fa_47_6 rfl) rfl rfl ?_
 refine wl_gyes rfl rfl ?_
 refine o_y (y_loadr 0 ty_45 rfl rfl rfl) rfl rfl ?_
 refine wl_gyes rfl rfl ?_
 refine o_y (y_gtr rfl rfl) rfl rfl ?_
 refine wl_splitp (t := 16) rfl (fun h4_6 => ?_) (fun h4_6 => ?_)
 refine o_y (y_pick_f rfl rfl) rfl rfl ?_
 refine o_y (y_move rfl) rfl rfl ?_
 refine wl_gno rfl rfl rfl rfl ?_
 refine wl_gno rfl rfl rfl rfl ?_
 refine wl_gno rfl rfl rfl rfl ?_
 refine wl_gno rfl rfl rfl rfl ?_
 refine o_y (y_pick_t rfl rfl) rfl rfl ?_
 refine o_y (y_move rfl) rfl rfl ?_
 refine wl_gno rfl rfl rfl rfl ?_
 refine wl_gno rfl rfl rfl rfl ?_
 refine wl_gno rfl rfl rfl rfl ?_
 refine o_y (y_pick_t rfl rfl) rfl rfl ?_
 refine wl_nil ?_
 refine e_seq ?_
 refine w_cond_t rfl ?_
 refine w_seq ?_
 refine w_region ?_
 refine o_y (y_assign rfl) rfl rfl ?_
 refine wl_nil ?_
 refine e_seq ?_
 refine w_ret ?_
 refine e_seq_ret ?_
 refine e_ret (ts := [2]) rfl rfl rfl (fun w hw => ?_)
 refine ⟨(), ?_, hw.base, (hw.weak (List.nil_sublist _) (fun s hs => hs)).toNews⟩
 show Ending.returned (.int _ _) = _
 congr 2
 focus first
   | exact ent_host h2_1 h4_2
   | (simp [entCk, *]
      done)
   | (have q1 : 2147483647 < e.ttl := by omega
      simp [entCk, *]
      done)
   | (have q1 : ¬ 2147483647 < e.ttl := by omega
      simp [entCk, *]
      done)
   | (trace_state; fail)
 refine o_y (y_pick_f rfl rfl) rfl rfl ?_
 refine o_y (y_move rfl) rfl rfl ?_
 refine wl_gyes rfl rfl ?_
 refine o_y (y_field fa_47_5 rfl) rfl rfl ?_
 refine wl_gyes rfl rfl ?_
 refine o_y (y_loadr 0 ty_44 rfl rfl rfl) rfl rfl ?_
 refine wl_gyes rfl rfl ?_
 refine o_callq rfl ent_128 rfl (c_entry_ports _ _ _ (by omega)) (fun w hw => (rd_cons (rd_S 1 rfl hw) rd_nil)) ?_
 refine wl_splitb (t := 21) rfl (fun h4_11 => ?_) (fun h4_11 => ?_)
 refine wl_gyes rfl rfl ?_
 refine o_y (y_not rfl) rfl rfl ?_
 refine o_y (y_pick_f rfl rfl) rfl rfl ?_
 refine o_y (y_move rfl) rfl rfl ?_
 refine wl_gyes rfl rfl ?_
 refine o_y (y_loadrs 0 ty_47 rfl rfl rfl rfl) rfl rfl ?_
 refine wl_gyes rfl rfl ?_
 refine o_callq rfl ent_129 rfl (c_entry_may _ _ _ _ _ hwa hla hlp hk) (fun w hw => (rd_cons (rd_S 0 rfl hw) (rd_cons (rd_S 1 rfl hw) rd_nil))) ?_
 refine wl_splitb (t := 26) rfl (fun h4_16 => ?_) (fun h4_16 => ?_)
 refine wl_gyes rfl rfl ?_
 refine o_y (y_not rfl) rfl rfl ?_
 refine o_y (y_pick_f rfl rfl) rfl rfl ?_
 refine wl_nil ?_
 refine e_seq ?_
 refine w_cond_f rfl ?_
 refine w_skip ?_
 refine e_seq ?_
 refine w_seq ?_
 refine w_region ?_
 refine o_y (y_assign rfl) rfl rfl ?_
 refine wl_nil ?_
 refine e_seq ?_
 refine w_ret ?_
 refine e_ret (ts := [2]) rfl rfl rfl (fun w hw => ?_)
 refine ⟨(), ?_, hw.base, (hw.weak (List.nil_sublist _) (fun s hs => hs)).toNews⟩
 show Ending.returned (.int _ _) = _
 congr 2
 focus first
   | exact ent_host h2_1 h4_2
   | (simp [entCk, *]
      done)
   | (have q1 : 2147483647 < e.ttl := by omega
      simp [entCk, *]
      done)
   | (have q1 : ¬ 2147483647 < e.ttl := by omega
      simp [entCk, *]
      done)
   | (trace_state; fail)
 refine wl_gyes rfl rfl ?_
 refine o_y (y_not rfl) rfl rfl ?_
 refine o_y (y_pick_f rfl rfl) rfl rfl ?_
 refine wl_nil ?_
 refine e_seq ?_
 refine w_cond_t rfl ?_
 refine w_seq ?_
 refine w_region ?_
 refine o_y (y_assign rfl) rfl rfl ?_
 refine wl_nil ?_
 refine e_seq ?_
 refine w_ret ?_
 refine e_seq_ret ?_
 refine e_ret (ts := [2]) rfl rfl rfl (fun w hw => ?_)
 refine ⟨(), ?_, hw.base, (hw.weak (List.nil_sublist _) (fun s hs => hs)).toNews⟩
 show Ending.returned (.int _ _) = _
 congr 2
 focus first
   | exact ent_host h2_1 h4_2
   | (simp [entCk, *]
      done)
   | (have q1 : 2147483647 < e.ttl := by omega
      simp [entCk, *]
      done)
   | (have q1 : ¬ 2147483647 < e.ttl := by omega
      simp [entCk, *]
      done)
   | (trace_state; fail)
 refine wl_gyes rfl rfl ?_
 refine o_y (y_not rfl) rfl rfl ?_
 refine o_y (y_pick_f rfl rfl) rfl rfl ?_
 refine o_y (y_move rfl) rfl rfl ?_
 refine wl_gno rfl rfl rfl rfl ?_
 refine wl_gno rfl rfl rfl rfl ?_
 refine wl_gno rfl rfl rfl rfl ?_
 refine o_y (y_pick_t rfl rfl) rfl rfl ?_
 refine wl_nil ?_
 refine e_seq ?_
 refine w_cond_t rfl ?_
 refine w_seq ?_
 refine w_region ?_
 refine o_y (y_assign rfl) rfl rfl ?_
 refine wl_nil ?_
 refine e_seq ?_
 refine w_ret ?_
 refine e_seq_ret ?_
 refine e_ret (ts := [2]) rfl rfl rfl (fun w hw => ?_)
 refine ⟨(), ?_, hw.base, (hw.weak (List.nil_sublist _) (fun s hs => hs)).toNews⟩
 show Ending.returned (.int _ _) = _
 congr 2
 focus first
   | exact ent_host h2_1 h4_2
   | (simp [entCk, *]
      done)
   | (have q1 : 2147483647 < e.ttl := by omega
      simp [entCk, *]
      done)
   | (have q1 : ¬ 2147483647 < e.ttl := by omega
      simp [entCk, *]
      done)
   | (trace_state; fail)

theorem rs_none {A : Option Addr} {n sz : Nat} {cs : List Value} {w : World} (h : RsP A n sz cs w) (hA : A.isNone = true) : n = 0 := by
  rcases h.at_ with h0 | ⟨b, o, rfl, _⟩
  · exact h0
  · cases hA
theorem filter_yes {α : Type} {F : α → Bool} {l : List α} {d : α} {k : Nat} (hk : k < l.length) (h : F (l.getD k d) = true) : (l.take (k + 1)).filter F = (l.take k).filter F ++ [l.getD k d] := by
  rw [take_getD l d k hk, List.filter_append]
  congr 1
  simp only [List.filter_cons, h, if_true, List.filter_nil]
theorem filter_no {α : Type} {F : α → Bool} {l : List α} {d : α} {k : Nat} (hk : k < l.length) (h : F (l.getD k d) = false) : (l.take (k + 1)).filter F = (l.take k).filter F := by
  rw [take_getD l d k hk, List.filter_append]
  simp only [List.filter_cons, h, List.filter_nil]
  simp
theorem filter_take_le {α : Type} (F : α → Bool) (l : List α) (k : Nat) : ((l.take k).filter F).length ≤ l.length := Nat.le_trans (List.length_filter_le _ _) (by simp; omega)

theorem c_Clone_ad (l : List Ad) (A : Option Addr) (c : Nat) (hl : l.length ≤ 1000000000000) : RC Tryz.prog 94 #[.slice A l.length c] [Ch.rd A 3 adC l] (α := Option Addr × Nat) (fun p => .slice p.1 l.length p.2) (fun p => [Ch.ls p.1 p.2 28 3 adC l]) := by
 refine rc_of_W (args := [.slice A l.length c]) 8 Tryz.func94 rfl rfl rfl (fun w0 => ?_)
 refine w_seq ?_
 refine w_region ?_
 refine o_y (y_assign rfl) rfl rfl ?_
 refine wl_nil ?_
 refine e_seq ?_
 refine w_seq ?_
 refine w_seq ?_
 refine w_region ?_
 refine o_y (y_move rfl) rfl rfl ?_
 refine o_y (y_eqsn Tryz.underlying43 rfl rfl) rfl rfl ?_
 refine wl_splitb (t := 4) rfl (fun h1_1 => ?_) (fun h1_1 => ?_)
 refine wl_nil ?_
 refine e_seq ?_
 refine w_cond_t rfl ?_
 refine w_seq ?_
 refine w_region ?_
 refine o_y (y_assign rfl) rfl rfl ?_
 refine wl_nil ?_
 refine e_seq ?_
 refine w_ret ?_
 refine e_seq_ret ?_
 refine e_ret (ts := [2]) rfl rfl rfl (fun w hw => ?_)
 have hr : RsP A l.length 3 _ w := hw.sh _ List.mem_cons_self
 have h0 : l = [] := List.length_eq_zero_iff.1 (rs_none hr h1_1)
 subst h0
 exact ⟨(none, 0), rfl, hw.base, (hw.nilsl 28 3).toNews⟩
 refine wl_nil ?_
 refine e_seq ?_
 refine w_cond_f rfl ?_
 refine w_skip ?_
 refine e_seq ?_
 refine w_seq ?_
 refine w_region ?_
 refine o_bsl (vs := []) ([] : List (Ad)) enc_ad Tryz.underlying43 ty_28 rfl rfl rfl rfl rfl rfl (fun As1 => ?_)
 refine o_y (y_move rfl) rfl rfl ?_
 refine o_appm (enc := adC) (sz := 3) l Tryz.underlying43 ty_28 rfl rfl rfl (fun A c => .z) (src_S 0 Tryz.underlying43 rfl) (by simp only [List.length_cons, List.length_nil, Nat.zero_add]; omega) (by simp only [List.length_cons, List.length_nil, Nat.zero_add]; omega) rfl (fun A1 c1 => ?_)
 refine o_y (y_assign rfl) rfl rfl ?_
 refine wl_nil ?_
 refine e_seq ?_
 refine w_ret ?_
 refine e_ret (ts := [2]) rfl rfl rfl (fun w hw => ?_)
 exact ⟨(A1, c1), rfl, hw.base, hw.toNews⟩

theorem c_Clone_int (l : List Int) (A : Option Addr) (c : Nat) (hl : l.length ≤ 1000000000000) : RC Tryz.prog 95 #[.slice A l.length c] [Ch.rd A 1 enci l] (α := Option Addr × Nat) (fun p => .slice p.1 l.length p.2) (fun p => [Ch.ls p.1 p.2 3 1 enci l]) := by
 refine rc_of_W (args := [.slice A l.length c]) 8 Tryz.func95 rfl rfl rfl (fun w0 => ?_)
 refine w_seq ?_
 refine w_region ?_
 refine o_y (y_assign rfl) rfl rfl ?_
 refine wl_nil ?_
 refine e_seq ?_
 refine w_seq ?_
 refine w_seq ?_
 refine w_region ?_
 refine o_y (y_move rfl) rfl rfl ?_
 refine o_y (y_eqsn Tryz.underlying44 rfl rfl) rfl rfl ?_
 refine wl_splitb (t := 4) rfl (fun h1_1 => ?_) (fun h1_1 => ?_)
 refine wl_nil ?_
 refine e_seq ?_
 refine w_cond_t rfl ?_
 refine w_seq ?_
 refine w_region ?_
 refine o_y (y_assign rfl) rfl rfl ?_
 refine wl_nil ?_
 refine e_seq ?_
 refine w_ret ?_
 refine e_seq_ret ?_
 refine e_ret (ts := [2]) rfl rfl rfl (fun w hw => ?_)
 have hr : RsP A l.length 1 _ w := hw.sh _ List.mem_cons_self
 have h0 : l = [] := List.length_eq_zero_iff.1 (rs_none hr h1_1)
 subst h0
 exact ⟨(none, 0), rfl, hw.base, (hw.nilsl 3 1).toNews⟩
 refine wl_nil ?_
 refine e_seq ?_
 refine w_cond_f rfl ?_
 refine w_skip ?_
 refine e_seq ?_
 refine w_seq ?_
 refine w_region ?_
 refine o_bsl (vs := []) ([] : List (Int)) enc_i Tryz.underlying44 ty_3 rfl rfl rfl rfl rfl rfl (fun As1 => ?_)
 refine o_y (y_move rfl) rfl rfl ?_
 refine o_appm (enc := enci) (sz := 1) l Tryz.underlying44 ty_3 rfl rfl rfl (fun A c => .z) (src_S 0 Tryz.underlying44 rfl) (by simp only [List.length_cons, List.length_nil, Nat.zero_add]; omega) (by simp only [List.length_cons, List.length_nil, Nat.zero_add]; omega) rfl (fun A1 c1 => ?_)
 refine o_y (y_assign rfl) rfl rfl ?_
 refine wl_nil ?_
 refine e_seq ?_
 refine w_ret ?_
 refine e_ret (ts := [2]) rfl rfl rfl (fun w hw => ?_)
 exact ⟨(A1, c1), rfl, hw.base, hw.toNews⟩

theorem c_entry_Addrs (e : En) (A B : Option Addr) (c d : Nat) (H : Option Addr) (h : Nat) (held : List Ad) (hwh : ∀ a ∈ held, 0 ≤ a.lo) (hlh : held.length ≤ 1000000000000) (hwa : ∀ a ∈ e.addrs, 0 ≤ a.lo) (hla : e.addrs.length ≤ 1000000000000) (hlp : e.ports.length ≤ 1000000000000) (hk : -9223372036854775808 ≤ e.kind ∧ e.kind ≤ 9223372036854775807) : RC Tryz.prog 104 #[.agg (enC e A B c d).toArray, .slice H held.length h] [Ch.rd A 3 adC e.addrs, Ch.rd B 1 enci e.ports, Ch.rd H 3 adC held] (α := Option Addr × Nat) (fun p => .slice p.1 (entAd e held).length p.2) (fun p => [Ch.ls p.1 p.2 28 3 adC (entAd e held)]) := by
 refine rc_of_W (args := [.agg (enC e A B c d).toArray, .slice H held.length h]) 38 Tryz.func104 rfl rfl rfl (fun w0 => ?_)
 refine w_seq ?_
 refine w_region ?_
 refine o_box rfl rfl rfl (fun b1 => ?_)
 refine o_y (y_assign rfl) rfl rfl ?_
 refine wl_nil ?_
 refine e_seq ?_
 refine w_seq ?_
 refine w_block ?_
 refine w_seq ?_
 refine w_region ?_
 refine o_y (y_loadrs 0 ty_47 rfl rfl rfl rfl) rfl rfl ?_
 refine o_callq rfl ent_88 rfl (c_entry_Check _ _ _ _ _ hwa hla hlp hk) (fun w hw => (rd_cons (rd_S 0 rfl hw) (rd_cons (rd_S 1 rfl hw) rd_nil))) ?_
 refine o_y (y_neq rfl rfl) rfl rfl ?_
 refine wl_splitp (t := 11) rfl (fun h1_2 => ?_) (fun h1_2 => ?_)
 refine o_y (y_assign rfl) rfl rfl ?_
 refine wl_nil ?_
 refine e_seq ?_
 refine w_cond_t rfl ?_
 refine w_seq ?_
 refine w_region ?_
 refine o_y (y_assign rfl) rfl rfl ?_
 refine wl_nil ?_
 refine e_seq ?_
 refine w_ret ?_
 refine e_blk_ret ?_
 refine e_seq_ret ?_
 refine e_ret (ts := [4]) rfl rfl rfl (fun w hw => ?_)
 have hq : entAd e held = [] := if_pos h1_2
 rw [hq]
 exact ⟨(none, 0), rfl, hw.base, ((hw.weak (List.nil_sublist _) (fun s hs => hs)).nilsl 28 3).toNews⟩
 refine o_y (y_assign rfl) rfl rfl ?_
 refine wl_nil ?_
 refine e_seq ?_
 refine w_cond_f rfl ?_
 refine w_seq ?_
 refine w_region ?_
 refine o_y (y_field fa_47_1 rfl) rfl rfl ?_
 refine o_y (y_loadr 0 ty_3 rfl rfl rfl) rfl rfl ?_
 refine o_y (y_eql rfl rfl) rfl rfl ?_
 refine wl_splitp (t := 15) rfl (fun h3_2 => ?_) (fun h3_2 => ?_)
 refine o_y (y_assign rfl) rfl rfl ?_
 refine wl_nil ?_
 refine e_seq ?_
 refine w_cond_t rfl ?_
 refine w_seq ?_
 refine w_region ?_
 refine o_y (y_field fa_47_3 rfl) rfl rfl ?_
 refine o_y (y_loadr 0 ty_43 rfl rfl rfl) rfl rfl ?_
 refine o_callr1 rfl ent_94 rfl (c_Clone_ad _ _ _ (by omega)) (fun w hw => (rd_cons (rd_S 0 rfl hw) rd_nil)) (fun ⟨A1, c1⟩ => ?_)
 refine o_y (y_assign rfl) rfl rfl ?_
 refine wl_nil ?_
 refine e_seq ?_
 refine w_ret ?_
 refine e_blk_ret ?_
 refine e_seq_ret ?_
 refine e_ret (ts := [4]) rfl rfl rfl (fun w hw => ?_)
 have hq : entAd e held = e.addrs := by rw [entAd, if_neg h1_2, if_pos h3_2]
 rw [hq]
 exact ⟨(A1, c1), rfl, hw.base, (hw.weak (.cons_cons _ (List.nil_sublist _)) (fun s hs => hs)).toNews⟩
 refine o_y (y_assign rfl) rfl rfl ?_
 refine wl_nil ?_
 refine e_seq ?_
 refine w_cond_f rfl ?_
 refine w_seq ?_
 refine w_region ?_
 refine o_y (y_field fa_47_1 rfl) rfl rfl ?_
 refine o_y (y_loadr 0 ty_3 rfl rfl rfl) rfl rfl ?_
 refine o_y (y_neq rfl rfl) rfl rfl ?_
 refine wl_splitp (t := 22) rfl (fun h5_2 => ?_) (fun h5_2 => ?_)
 refine o_y (y_assign rfl) rfl rfl ?_
 refine wl_nil ?_
 refine e_seq ?_
 refine w_cond_t rfl ?_
 refine w_seq ?_
 refine w_region ?_
 refine o_y (y_assign rfl) rfl rfl ?_
 refine wl_nil ?_
 refine e_seq ?_
 refine w_ret ?_
 refine e_blk_ret ?_
 refine e_seq_ret ?_
 refine e_ret (ts := [4]) rfl rfl rfl (fun w hw => ?_)
 have hq : entAd e held = [] := by rw [entAd, if_neg h1_2, if_neg h3_2, if_pos h5_2]
 rw [hq]
 exact ⟨(none, 0), rfl, hw.base, ((hw.weak (List.nil_sublist _) (fun s hs => hs)).nilsl 28 3).toNews⟩
 refine o_y (y_assign rfl) rfl rfl ?_
 refine wl_nil ?_
 refine e_seq ?_
 refine w_cond_f rfl ?_
 refine w_skip ?_
 refine e_blk ?_
 refine e_seq ?_
 refine w_seq ?_
 refine w_region ?_
 refine o_y (y_assign rfl) rfl rfl ?_
 refine wl_nil ?_
 refine e_seq ?_
 refine w_seq ?_
 refine w_seq ?_
 refine w_region ?_
 refine o_y (y_move rfl) rfl rfl ?_
 refine o_y (y_lenl Tryz.underlying43 rfl) rfl rfl ?_
 refine o_y (y_move rfl) rfl rfl ?_
 refine wl_nil ?_
 refine e_seq ?_
 refine w_block ?_
 refine w_heap (fun w h => h.nilsl 28 3) ?_
 refine w_loop1 (σ := Nat × Option Addr × Nat) [5, 7, 25, 26, 27, 28, 29, 30, 31, 32, 33, 34, 35, 36] (fun q => q.1 ≤ held.length) (fun q => held.length - q.1) (fun q => [(25, .int .i64 q.1), (5, .slice q.2.1 ((held.take q.1).filter (fun a => decide (addrCk a = 0))).length q.2.2)]) (fun q => Ch.ls q.2.1 q.2.2 28 3 adC ((held.take q.1).filter (fun a => decide (addrCk a = 0)))) ((0, none, 0)) ?_ ⟨rfl, rfl, trivial⟩ rfl (fun q hI => ?_)
 exact Nat.zero_le _
 obtain ⟨k, Aq, cq⟩ := q
 dsimp only at hI ⊢
 have hfl := filter_take_le (fun a => decide (addrCk a = 0)) held k
 refine w_seq ?_
 refine w_region ?_
 refine o_y (y_lss rfl rfl) rfl rfl ?_
 refine wl_splitp (t := 26) rfl (fun h9_0 => ?_) (fun h9_0 => ?_)
 refine wl_nil ?_
 refine e_seq ?_
 refine w_seq ?_
 refine w_cond_t rfl ?_
 refine w_skip ?_
 refine e_seq ?_
 refine w_seq ?_
 refine w_block ?_
 refine w_seq ?_
 refine w_region ?_
 refine o_y (y_ixm  Tryz.underlying43 ty_28 rfl rfl (rs_S 2 rfl) rfl (by omega)) rfl rfl ?_
 refine o_y (y_ldsm0 enc_ad ad0 ty_28 rfl (rs_S 2 rfl) (by omega) rfl rfl rfl) rfl rfl ?_
 refine o_alloc ty_28 rfl rfl (fun b3 => ?_)
 refine o_store ty_28 rfl rfl rfl .z rfl rfl rfl rfl ?_
 refine wl_nil ?_
 refine e_seq ?_
 refine w_seq ?_
 refine w_region ?_
 refine o_y (y_loadrs 0 ty_28 rfl rfl rfl rfl) rfl rfl ?_
 refine o_callp rfl ent_52 (c_addr_Check _ (hwh _ (mem_getA (by omega)))) rfl ?_
 refine o_y (y_eql rfl rfl) rfl rfl ?_
 refine wl_splitp (t := 31) rfl (fun h11_2 => ?_) (fun h11_2 => ?_)
 refine wl_nil ?_
 refine e_seq ?_
 refine w_cond_t rfl ?_
 refine w_region ?_
 refine o_y (y_move rfl) rfl rfl ?_
 refine o_y (y_loadrs 0 ty_28 rfl rfl rfl rfl) rfl rfl ?_
 refine o_bsl (vs := [_]) ([_] : List (Ad)) enc_ad Tryz.underlying43 ty_28 rfl rfl rfl rfl rfl rfl (fun As4 => ?_)
 refine o_appm (enc := adC) (sz := 3) _ Tryz.underlying43 ty_28 rfl rfl rfl (fun A c => (.s (.s (.z)))) (src_L 0 Tryz.underlying43 rfl) (by simp only [List.length_cons, List.length_nil, Nat.zero_add]; omega) (by simp only [List.length_cons, List.length_nil, Nat.zero_add]; omega) rfl (fun A4 c4 => ?_)
 refine o_y (y_assign rfl) rfl rfl ?_
 refine wl_nil ?_
 refine e_blk ?_
 refine e_seq ?_
 refine w_region ?_
 refine o_y (y_addi rfl rfl (by omega) (by omega)) rfl rfl ?_
 refine o_y (y_move rfl) rfl rfl ?_
 refine wl_nil ?_
 have hfs := filter_yes (F := (fun a => decide (addrCk a = 0))) (l := held) (d := ad0) (k := k) (by omega) (by simpa using h11_2)
 refine e_back ((k + 1, A4, c4)) ?_ ?_ ⟨rfl, lk rfl (by rw [hfs]), trivial⟩ (by repeat (first | exact trivial | refine ⟨rfl, ?_⟩)) (fun w h => by show Hp _ _ (Ch.ls _ _ _ _ _ ((held.take (k + 1)).filter (fun a => decide (addrCk a = 0))) :: _) _ _; rw [hfs]; exact h.weak (.cons _ (.cons _ (List.Sublist.refl _))) (fun s hs => hs))
 show k + 1 ≤ _
 omega
 show held.length - (k + 1) < held.length - k
 omega
 refine wl_nil ?_
 refine e_seq ?_
 refine w_cond_f rfl ?_
 refine w_skip ?_
 refine e_blk ?_
 refine e_seq ?_
 refine w_region ?_
 refine o_y (y_addi rfl rfl (by omega) (by omega)) rfl rfl ?_
 refine o_y (y_move rfl) rfl rfl ?_
 refine wl_nil ?_
 have hfs := filter_no (F := (fun a => decide (addrCk a = 0))) (l := held) (d := ad0) (k := k) (by omega) (by simpa using h11_2)
 refine e_back ((k + 1, Aq, cq)) ?_ ?_ ⟨rfl, lk rfl (by rw [hfs]), trivial⟩ (by repeat (first | exact trivial | refine ⟨rfl, ?_⟩)) (fun w h => by show Hp _ _ (Ch.ls _ _ _ _ _ ((held.take (k + 1)).filter (fun a => decide (addrCk a = 0))) :: _) _ _; rw [hfs]; exact h.weak (.cons _ (List.Sublist.refl _)) (fun s hs => hs))
 show k + 1 ≤ _
 omega
 show held.length - (k + 1) < held.length - k
 omega
 refine wl_nil ?_
 refine e_seq ?_
 refine w_seq ?_
 refine w_cond_f rfl ?_
 refine w_exit ?_
 refine e_seq_exit ?_
 refine e_loop_exit ?_
 refine e_blk_hit ?_
 refine e_seq ?_
 refine w_seq ?_
 refine w_region ?_
 refine o_y (y_move rfl) rfl rfl ?_
 refine o_y (y_assign rfl) rfl rfl ?_
 refine wl_nil ?_
 refine e_seq ?_
 refine w_ret ?_
 refine e_ret (ts := [4]) rfl rfl rfl (fun w hw => ?_)
 have hq : entAd e held = held.filter fun a => decide (addrCk a = 0) := by rw [entAd, if_neg h1_2, if_neg h3_2, if_neg h5_2]
 obtain rfl : k = held.length := by omega
 rw [hq]
 rw [List.take_length] at hw ⊢
 exact ⟨(Aq, cq), rfl, hw.base, (hw.weak (.cons_cons _ (List.nil_sublist _)) (fun s hs => hs)).toNews⟩

theorem c_entry_Key (e : En) (A B : Option Addr) (c d : Nat) (hn : e.host.length ≤ 1000000000) : Pure Tryz.prog 48 #[.agg (enC e A B c d).toArray] (.string (ba (foldN e.host))) := by
 intro w0
 refine calls_of_W (ok0 := no) (S := []) (args := [.agg (enC e A B c d).toArray]) 6 Tryz.func48 rfl rfl rfl (by simp) (by simp) ?_
 refine w_seq ?_
 refine w_region ?_
 refine o_box rfl rfl rfl (fun b1 => ?_)
 refine o_y (y_assign rfl) rfl rfl ?_
 refine wl_nil ?_
 refine e_seq ?_
 refine w_seq ?_
 refine w_region ?_
 refine o_y (y_field fa_47_0 rfl) rfl rfl ?_
 refine o_y (y_loadr 0 ty_36 rfl rfl rfl) rfl rfl ?_
 refine o_callp rfl ent_50 (p_name_Fold _ (by omega)) rfl ?_
 refine o_y (y_assign rfl) rfl rfl ?_
 refine wl_nil ?_
 refine e_seq ?_
 refine w_ret ?_
 refine e_ret (ts := [2]) rfl rfl rfl (fun w hw => ?_)
 exact ⟨rfl, hw.base⟩
end Go.Proofs.YtfmelbpgkbiooaaGreat
