import Derived.Test.YtfmelbpgkbiooaaGreatCgS
/- the references of addresses, data, records, entries -/
namespace Go.Proofs.YtfmelbpgkbiooaaGreat
open Go.RowKit Go.Shelf
set_option linter.unusedVariables false
set_option linter.unusedSimpArgs false

theorem ent_122 : Enters Tryz.prog 122 := enters_of Tryz.func122 (by kernel_rfl) rfl
theorem ent_123 : Enters Tryz.prog 123 := enters_of Tryz.func123 (by kernel_rfl) rfl
theorem ent_65 : Enters Tryz.prog 65 := enters_of Tryz.func65 (by kernel_rfl) rfl

/-- Not too much. -/
def lightE (e : En) : Bool := decide (e.host.length ≤ 300) && decide (e.alias.length ≤ 300) && decide (e.cluster.length ≤ 300) && decide (e.addrs.length ≤ 20) && decide (e.ports.length ≤ 20)

theorem c_LightEntry (e : En) (A B : Option Addr) (c d : Nat) : Pure Tryz.prog 45 #[.agg (enC e A B c d).toArray] (.bool (lightE e)) := by
 intro w0
 refine calls_of_W (ok0 := no) (S := []) (args := [.agg (enC e A B c d).toArray]) 31 Tryz.func45 rfl rfl rfl (by simp) (by simp) ?_
 refine w_seq ?_
 refine w_region ?_
 refine o_box rfl rfl rfl (fun b1 => ?_)
 refine o_y (y_assign rfl) rfl rfl ?_
 refine wl_nil ?_
 refine e_seq ?_
 refine w_seq ?_
 refine w_region ?_
 refine o_y (y_field fa_47_0 rfl) rfl rfl ?_
 refine o_y (y_loadr 0 ty_36 rfl rfl rfl) rfl rfl ?_
 refine o_y (y_lens Tryz.underlying36 rfl) rfl rfl ?_
 refine o_y (y_leq rfl rfl) rfl rfl ?_
 refine wl_splitp (t := 6) rfl (fun h1_3 => ?_) (fun h1_3 => ?_)
 refine o_y (y_move rfl) rfl rfl ?_
 refine wl_gyes rfl rfl ?_
 refine o_y (y_field fa_47_4 rfl) rfl rfl ?_
 refine wl_gyes rfl rfl ?_
 refine o_y (y_loadr 0 ty_36 rfl rfl rfl) rfl rfl ?_
 refine wl_gyes rfl rfl ?_
 refine o_y (y_lens Tryz.underlying36 rfl) rfl rfl ?_
 refine wl_gyes rfl rfl ?_
 refine o_y (y_leq rfl rfl) rfl rfl ?_
 refine wl_splitp (t := 11) rfl (fun h1_8 => ?_) (fun h1_8 => ?_)
 refine o_y (y_pick_t rfl rfl) rfl rfl ?_
 refine o_y (y_move rfl) rfl rfl ?_
 refine wl_gyes rfl rfl ?_
 refine o_y (y_field fa_47_2 rfl) rfl rfl ?_
 refine wl_gyes rfl rfl ?_
 refine o_y (y_loadr 0 ty_9 rfl rfl rfl) rfl rfl ?_
 refine wl_gyes rfl rfl ?_
 refine o_y (y_lens Tryz.underlying9 rfl) rfl rfl ?_
 refine wl_gyes rfl rfl ?_
 refine o_y (y_leq rfl rfl) rfl rfl ?_
 refine wl_splitp (t := 17) rfl (fun h1_14 => ?_) (fun h1_14 => ?_)
 refine o_y (y_pick_t rfl rfl) rfl rfl ?_
 refine o_y (y_move rfl) rfl rfl ?_
 refine wl_gyes rfl rfl ?_
 refine o_y (y_field fa_47_3 rfl) rfl rfl ?_
 refine wl_gyes rfl rfl ?_
 refine o_y (y_loadr 0 ty_43 rfl rfl rfl) rfl rfl ?_
 refine wl_gyes rfl rfl ?_
 refine o_y (y_lenl Tryz.underlying43 rfl) rfl rfl ?_
 refine wl_gyes rfl rfl ?_
 refine o_y (y_leq rfl rfl) rfl rfl ?_
 refine wl_splitp (t := 23) rfl (fun h1_20 => ?_) (fun h1_20 => ?_)
 refine o_y (y_pick_t rfl rfl) rfl rfl ?_
 refine o_y (y_move rfl) rfl rfl ?_
 refine wl_gyes rfl rfl ?_
 refine o_y (y_field fa_47_5 rfl) rfl rfl ?_
 refine wl_gyes rfl rfl ?_
 refine o_y (y_loadr 0 ty_44 rfl rfl rfl) rfl rfl ?_
 refine wl_gyes rfl rfl ?_
 refine o_y (y_lenl Tryz.underlying44 rfl) rfl rfl ?_
 refine wl_gyes rfl rfl ?_
 refine o_y (y_leq rfl rfl) rfl rfl ?_
 refine o_y (y_pick_t rfl rfl) rfl rfl ?_
 refine o_y (y_assign rfl) rfl rfl ?_
 refine wl_nil ?_
 refine e_seq ?_
 refine w_ret ?_
 refine e_ret (ts := [2]) rfl rfl rfl (fun w hw => ?_)
 refine ⟨?_, hw.base⟩
 show Ending.returned (.bool _) = _
 congr 2
 rw [Bool.eq_iff_iff]
 simp only [lightE, Bool.and_eq_true, decide_eq_true_eq]
 focus first | omega | (simp; omega) | (trace_state; fail)
 refine o_y (y_pick_t rfl rfl) rfl rfl ?_
 refine o_y (y_move rfl) rfl rfl ?_
 refine wl_gno rfl rfl rfl rfl ?_
 refine wl_gno rfl rfl rfl rfl ?_
 refine wl_gno rfl rfl rfl rfl ?_
 refine wl_gno rfl rfl rfl rfl ?_
 refine o_y (y_pick_f rfl rfl) rfl rfl ?_
 refine o_y (y_assign rfl) rfl rfl ?_
 refine wl_nil ?_
 refine e_seq ?_
 refine w_ret ?_
 refine e_ret (ts := [2]) rfl rfl rfl (fun w hw => ?_)
 refine ⟨?_, hw.base⟩
 show Ending.returned (.bool _) = _
 congr 2
 rw [Bool.eq_iff_iff]
 simp only [lightE, Bool.and_eq_true, decide_eq_true_eq]
 focus first | omega | (simp; omega) | (trace_state; fail)
 refine o_y (y_pick_t rfl rfl) rfl rfl ?_
 refine o_y (y_move rfl) rfl rfl ?_
 refine wl_gno rfl rfl rfl rfl ?_
 refine wl_gno rfl rfl rfl rfl ?_
 refine wl_gno rfl rfl rfl rfl ?_
 refine wl_gno rfl rfl rfl rfl ?_
 refine o_y (y_pick_f rfl rfl) rfl rfl ?_
 refine o_y (y_move rfl) rfl rfl ?_
 refine wl_gno rfl rfl rfl rfl ?_
 refine wl_gno rfl rfl rfl rfl ?_
 refine wl_gno rfl rfl rfl rfl ?_
 refine wl_gno rfl rfl rfl rfl ?_
 refine o_y (y_pick_f rfl rfl) rfl rfl ?_
 refine o_y (y_assign rfl) rfl rfl ?_
 refine wl_nil ?_
 refine e_seq ?_
 refine w_ret ?_
 refine e_ret (ts := [2]) rfl rfl rfl (fun w hw => ?_)
 refine ⟨?_, hw.base⟩
 show Ending.returned (.bool _) = _
 congr 2
 rw [Bool.eq_iff_iff]
 simp only [lightE, Bool.and_eq_true, decide_eq_true_eq]
 focus first | omega | (simp; omega) | (trace_state; fail)
 refine o_y (y_pick_t rfl rfl) rfl rfl ?_
 refine o_y (y_move rfl) rfl rfl ?_
 refine wl_gno rfl rfl rfl rfl ?_
 refine wl_gno rfl rfl rfl rfl ?_
 refine wl_gno rfl rfl rfl rfl ?_
 refine wl_gno rfl rfl rfl rfl ?_
 refine o_y (y_pick_f rfl rfl) rfl rfl ?_
 refine o_y (y_move rfl) rfl rfl ?_
 refine wl_gno rfl rfl rfl rfl ?_
 refine wl_gno rfl rfl rfl rfl ?_
 refine wl_gno rfl rfl rfl rfl ?_
 refine wl_gno rfl rfl rfl rfl ?_
 refine o_y (y_pick_f rfl rfl) rfl rfl ?_
 refine o_y (y_move rfl) rfl rfl ?_
 refine wl_gno rfl rfl rfl rfl ?_
 refine wl_gno rfl rfl rfl rfl ?_
 refine wl_gno rfl rfl rfl rfl ?_
 refine wl_gno rfl rfl rfl rfl ?_
 refine o_y (y_pick_f rfl rfl) rfl rfl ?_
 refine o_y (y_assign rfl) rfl rfl ?_
 refine wl_nil ?_
 refine e_seq ?_
 refine w_ret ?_
 refine e_ret (ts := [2]) rfl rfl rfl (fun w hw => ?_)
 refine ⟨?_, hw.base⟩
 show Ending.returned (.bool _) = _
 congr 2
 rw [Bool.eq_iff_iff]
 simp only [lightE, Bool.and_eq_true, decide_eq_true_eq]
 focus first | omega | (simp; omega) | (trace_state; fail)
 refine o_y (y_move rfl) rfl rfl ?_
 refine wl_gno rfl rfl rfl rfl ?_
 refine wl_gno rfl rfl rfl rfl ?_
 refine wl_gno rfl rfl rfl rfl ?_
 refine wl_gno rfl rfl rfl rfl ?_
 refine o_y (y_pick_f rfl rfl) rfl rfl ?_
 refine o_y (y_move rfl) rfl rfl ?_
 refine wl_gno rfl rfl rfl rfl ?_
 refine wl_gno rfl rfl rfl rfl ?_
 refine wl_gno rfl rfl rfl rfl ?_
 refine wl_gno rfl rfl rfl rfl ?_
 refine o_y (y_pick_f rfl rfl) rfl rfl ?_
 refine o_y (y_move rfl) rfl rfl ?_
 refine wl_gno rfl rfl rfl rfl ?_
 refine wl_gno rfl rfl rfl rfl ?_
 refine wl_gno rfl rfl rfl rfl ?_
 refine wl_gno rfl rfl rfl rfl ?_
 refine o_y (y_pick_f rfl rfl) rfl rfl ?_
 refine o_y (y_move rfl) rfl rfl ?_
 refine wl_gno rfl rfl rfl rfl ?_
 refine wl_gno rfl rfl rfl rfl ?_
 refine wl_gno rfl rfl rfl rfl ?_
 refine wl_gno rfl rfl rfl rfl ?_
 refine o_y (y_pick_f rfl rfl) rfl rfl ?_
 refine o_y (y_assign rfl) rfl rfl ?_
 refine wl_nil ?_
 refine e_seq ?_
 refine w_ret ?_
 refine e_ret (ts := [2]) rfl rfl rfl (fun w hw => ?_)
 refine ⟨?_, hw.base⟩
 show Ending.returned (.bool _) = _
 congr 2
 rw [Bool.eq_iff_iff]
 simp only [lightE, Bool.and_eq_true, decide_eq_true_eq]
 focus first | omega | (simp; omega) | (trace_state; fail)

/-- None twice, each may be: so far. -/
theorem ad_step {l : List Ad} {k : Nat} (h : ∀ i, i < k → adOk l i) (hc : addrCk (l.getD k ad0) = 0) (hn : ∀ j, j < k → l.getD k ad0 ≠ l.getD j ad0) : ∀ i, i < k + 1 → adOk l i := all_succ h ⟨hc, hn⟩
def adsR (l : List Ad) : Bool := decide (∀ i, i < l.length → adOk l i)
theorem adsR_bad {l : List Ad} {k : Nat} (hk : k < l.length) (h : ¬ adOk l k) : adsR l = false := decide_eq_false (fun h2 => h (h2 k hk))

set_option maxRecDepth 100000 in
theorem c_ref16_addrs (l : List Ad) (A : Option Addr) (c : Nat) (hl : l.length ≤ 1000000000000) (hw0 : ∀ a ∈ l, 0 ≤ a.lo) : RC Tryz.prog 122 #[.slice A l.length c] [Ch.rd A 3 adC l] (α := Unit) (fun _ => .bool (adsR l)) (fun _ => []) := by
 refine rc_of_W (args := [.slice A l.length c]) 31 Tryz.func122 rfl rfl rfl (fun w0 => ?_)
 refine w_seq ?_
 refine w_region ?_
 refine o_y (y_assign rfl) rfl rfl ?_
 refine wl_nil ?_
 refine e_seq ?_
 refine w_seq ?_
 refine w_seq ?_
 refine w_region ?_
 refine o_y (y_assign rfl) rfl rfl ?_
 refine wl_nil ?_
 refine e_seq ?_
 refine w_block ?_
 refine w_loop0 (σ := Nat) [2, 3, 4, 5, 6, 7, 8, 9, 10, 11, 12, 13, 14, 15, 16, 17, 18, 19, 20, 21, 22, 23, 24, 25, 26, 27, 28, 29, 30] (fun k => k ≤ l.length ∧ ∀ i, i < k → adOk l i) (fun k => l.length - k) (fun k => [(3, .int .i64 k)]) (0) ?_ ⟨rfl, trivial⟩ (fun k hI => ?_)
 exact ⟨Nat.zero_le _, nofun⟩
 have hK := hI
 refine w_seq ?_
 refine w_seq ?_
 refine w_region ?_
 refine o_y (y_move rfl) rfl rfl ?_
 refine o_y (y_move rfl) rfl rfl ?_
 refine o_y (y_lenl Tryz.underlying43 rfl) rfl rfl ?_
 refine o_y (y_lss rfl rfl) rfl rfl ?_
 refine wl_splitp (t := 8) rfl (fun h2_3 => ?_) (fun h2_3 => ?_)
 refine wl_nil ?_
 refine e_seq ?_
 refine w_cond_t rfl ?_
 refine w_skip ?_
 refine e_seq ?_
 refine w_seq ?_
 refine w_block ?_
 refine w_seq ?_
 refine w_seq ?_
 refine w_region ?_
 refine o_y (y_assign rfl) rfl rfl ?_
 refine wl_nil ?_
 refine e_seq ?_
 refine w_block ?_
 refine w_loop0 (σ := Nat) [2, 4, 11, 12, 13, 14, 15, 16, 17, 18, 19, 20, 21, 22, 23, 24] (fun j => j ≤ k ∧ ∀ i, i < j → l.getD k ad0 ≠ l.getD i ad0) (fun j => k - j) (fun j => [(4, .int .i64 j)]) (0) ?_ ⟨rfl, trivial⟩ (fun j hI => ?_)
 exact ⟨Nat.zero_le _, nofun⟩
 have hJ := hI
 refine w_seq ?_
 refine w_seq ?_
 refine w_region ?_
 refine o_y (y_move rfl) rfl rfl ?_
 refine o_y (y_move rfl) rfl rfl ?_
 refine o_y (y_lss rfl rfl) rfl rfl ?_
 refine wl_splitp (t := 13) rfl (fun h5_2 => ?_) (fun h5_2 => ?_)
 refine wl_nil ?_
 refine e_seq ?_
 refine w_cond_t rfl ?_
 refine w_skip ?_
 refine e_seq ?_
 refine w_seq ?_
 refine w_block ?_
 refine w_seq ?_
 refine w_draw 9 rfl mixed ?_
 refine a_take (i := 0) rfl wanted_none (y_move rfl) (fun w h => h) (fun w h => h) rfl (pk_seq (pk_blk (pk_seq (pk_loop (pk_blk (pk_seq (pk_blk (pk_seq (pk_loop (pk_blk (pk_seq pk_fn))))))))))) (by kernel_rfl) rfl ?_
 refine a_take (i := 1) rfl wanted_none (y_move rfl) (fun w h => h) (fun w h => h) rfl (pk_seq (pk_blk (pk_seq (pk_loop (pk_blk (pk_seq (pk_blk (pk_seq (pk_loop (pk_blk (pk_seq pk_fn))))))))))) (by kernel_rfl) rfl ?_
 refine a_take (i := 2) rfl wanted_none (y_ixm  Tryz.underlying43 ty_28 rfl rfl (rs_S 0 rfl) rfl (by omega)) (fun w h => h) (fun w h => h) rfl (pk_seq (pk_blk (pk_seq (pk_loop (pk_blk (pk_seq (pk_blk (pk_seq (pk_loop (pk_blk (pk_seq pk_fn))))))))))) (by kernel_rfl) rfl ?_
 refine a_take (i := 3) rfl wanted_none (y_ldsm0 enc_ad ad0 ty_28 rfl (rs_S 0 rfl) (by omega) rfl rfl rfl) (fun w h => h) (fun w h => h) rfl (pk_seq (pk_blk (pk_seq (pk_loop (pk_blk (pk_seq (pk_blk (pk_seq (pk_loop (pk_blk (pk_seq pk_fn))))))))))) (by kernel_rfl) rfl ?_
 refine a_take (i := 4) rfl wanted_none (y_move rfl) (fun w h => h) (fun w h => h) rfl (pk_seq (pk_blk (pk_seq (pk_loop (pk_blk (pk_seq (pk_blk (pk_seq (pk_loop (pk_blk (pk_seq pk_fn))))))))))) (by kernel_rfl) rfl ?_
 refine a_take (i := 5) rfl wanted_none (y_move rfl) (fun w h => h) (fun w h => h) rfl (pk_seq (pk_blk (pk_seq (pk_loop (pk_blk (pk_seq (pk_blk (pk_seq (pk_loop (pk_blk (pk_seq pk_fn))))))))))) (by kernel_rfl) rfl ?_
 refine a_take (i := 6) rfl wanted_none (y_ixm  Tryz.underlying43 ty_28 rfl rfl (rs_S 0 rfl) rfl (by omega)) (fun w h => h) (fun w h => h) rfl (pk_seq (pk_blk (pk_seq (pk_loop (pk_blk (pk_seq (pk_blk (pk_seq (pk_loop (pk_blk (pk_seq pk_fn))))))))))) (by kernel_rfl) rfl ?_
 refine a_take (i := 7) rfl wanted_none (y_ldsm0 enc_ad ad0 ty_28 rfl (rs_S 0 rfl) (by omega) rfl rfl rfl) (fun w h => h) (fun w h => h) rfl (pk_seq (pk_blk (pk_seq (pk_loop (pk_blk (pk_seq (pk_blk (pk_seq (pk_loop (pk_blk (pk_seq pk_fn))))))))))) (by kernel_rfl) rfl ?_
 refine a_take (i := 8) rfl wanted_none (y_eqst (by kernel_rfl) rfl rfl (eqd_ad _ _) rfl) (fun w h => h) (fun w h => h) rfl (pk_seq (pk_blk (pk_seq (pk_loop (pk_blk (pk_seq (pk_blk (pk_seq (pk_loop (pk_blk (pk_seq pk_fn))))))))))) (by kernel_rfl) rfl ?_
 refine wa_splitp (t := 24) rfl (fun h7_8 => ?_) (fun h7_8 => ?_)
 refine a_done (by kernel_rfl) ?_
 refine e_seq ?_
 refine w_cond_t rfl ?_
 refine w_seq ?_
 refine w_region ?_
 refine o_y (y_assign rfl) rfl rfl ?_
 refine wl_nil ?_
 refine e_seq ?_
 refine w_ret ?_
 refine e_blk_ret ?_
 refine e_seq_ret ?_
 refine e_loop_ret ?_
 refine e_blk_ret ?_
 refine e_seq_ret ?_
 refine e_blk_ret ?_
 refine e_seq_ret ?_
 refine e_loop_ret ?_
 refine e_blk_ret ?_
 refine e_seq_ret ?_
 refine e_ret (ts := [2]) rfl rfl rfl (fun w hw => ?_)
 have hb : adsR l = false := adsR_bad (k := k) (by omega) (fun h => h.2 j (by omega) h7_8)
 exact ⟨(), by rw [hb]; rfl, hw.base, hw.toNews⟩
 refine a_done (by kernel_rfl) ?_
 refine e_seq ?_
 refine w_cond_f rfl ?_
 refine w_skip ?_
 refine e_blk ?_
 refine e_seq ?_
 refine w_region ?_
 refine o_y (y_move rfl) rfl rfl ?_
 refine o_y (y_addi rfl rfl (by omega) (by omega)) rfl rfl ?_
 refine o_y (y_assign rfl) rfl rfl ?_
 refine wl_nil ?_
 refine e_back (j + 1) ?_ ?_ ⟨rfl, trivial⟩ (by repeat (first | exact trivial | refine ⟨rfl, ?_⟩)) (fun w h => h)
 exact ⟨by omega, all_succ hJ.2 h7_8⟩
 omega
 refine wl_nil ?_
 refine e_seq ?_
 refine w_cond_f rfl ?_
 refine w_exit ?_
 refine e_seq_exit ?_
 refine e_loop_exit ?_
 refine e_blk_hit ?_
 refine e_seq ?_
 refine w_seq ?_
 refine w_region ?_
 refine o_y (y_move rfl) rfl rfl ?_
 refine o_y (y_move rfl) rfl rfl ?_
 refine o_y (y_ixm  Tryz.underlying43 ty_28 rfl rfl (rs_S 0 rfl) rfl (by omega)) rfl rfl ?_
 refine o_y (y_ldsm0 enc_ad ad0 ty_28 rfl (rs_S 0 rfl) (by omega) rfl rfl rfl) rfl rfl ?_
 refine o_callp rfl ent_65 (c_ref04_Check _ (hw0 _ (mem_getA (by omega)))) rfl ?_
 refine o_y (y_neq rfl rfl) rfl rfl ?_
 refine wl_splitp (t := 30) rfl (fun h9_5 => ?_) (fun h9_5 => ?_)
 refine wl_nil ?_
 refine e_seq ?_
 refine w_cond_t rfl ?_
 refine w_seq ?_
 refine w_region ?_
 refine o_y (y_assign rfl) rfl rfl ?_
 refine wl_nil ?_
 refine e_seq ?_
 refine w_ret ?_
 refine e_blk_ret ?_
 refine e_seq_ret ?_
 refine e_loop_ret ?_
 refine e_blk_ret ?_
 refine e_seq_ret ?_
 refine e_ret (ts := [2]) rfl rfl rfl (fun w hw => ?_)
 have hb : adsR l = false := adsR_bad (k := k) (by omega) (fun h => h9_5 h.1)
 exact ⟨(), by rw [hb]; rfl, hw.base, hw.toNews⟩
 refine wl_nil ?_
 refine e_seq ?_
 refine w_cond_f rfl ?_
 refine w_skip ?_
 refine e_blk ?_
 refine e_seq ?_
 refine w_region ?_
 refine o_y (y_move rfl) rfl rfl ?_
 refine o_y (y_addi rfl rfl (by omega) (by omega)) rfl rfl ?_
 refine o_y (y_assign rfl) rfl rfl ?_
 refine wl_nil ?_
 refine e_back (k + 1) ?_ ?_ ⟨rfl, trivial⟩ (by repeat (first | exact trivial | refine ⟨rfl, ?_⟩)) (fun w h => h)
 exact ⟨by omega, ad_step hK.2 (by omega) (fun j2 hj2 => hJ.2 j2 (by omega))⟩
 omega
 refine wl_nil ?_
 refine e_seq ?_
 refine w_cond_f rfl ?_
 refine w_exit ?_
 refine e_seq_exit ?_
 refine e_loop_exit ?_
 refine e_blk_hit ?_
 refine e_seq ?_
 refine w_seq ?_
 refine w_region ?_
 refine o_y (y_assign rfl) rfl rfl ?_
 refine wl_nil ?_
 refine e_seq ?_
 refine w_ret ?_
 refine e_ret (ts := [2]) rfl rfl rfl (fun w hw => ?_)
 obtain rfl : k = l.length := by omega
 exact ⟨(), by rw [adsR, decide_eq_true hI.2]; rfl, hw.base, hw.toNews⟩

theorem wild_iff (n : Str) : [1, 42] <+: n ↔ 1 < n.length ∧ bt n 0 = 1 ∧ bt n 1 = 42 := by
  constructor
  · rintro ⟨t, rfl⟩
    exact ⟨by simp, rfl, rfl⟩
  · rintro ⟨h1, h2, h3⟩
    match n, h1, h2, h3 with
    | a :: b :: r, _, h2, h3 =>
      have ha : a = 1 := UInt8.toNat_inj.1 h2
      have hb : b = 42 := UInt8.toNat_inj.1 h3
      exact ⟨r, by rw [ha, hb]; rfl⟩
theorem wild_no {n : Str} (h : ¬ (nameCk n = 0 ∧ 1 < n.length ∧ bt n 0 = 1 ∧ bt n 1 = 42)) : wildN n = false := by
  rw [wildN, Bool.and_eq_false_iff, decide_eq_false_iff_not, decide_eq_false_iff_not, wild_iff]
  exact Decidable.not_and_iff_or_not.1 h
theorem wild_yes {n : Str} (h : nameCk n = 0 ∧ 1 < n.length ∧ bt n 0 = 1 ∧ bt n 1 = 42) : wildN n = true := by
  rw [wildN, decide_eq_true h.1, decide_eq_true ((wild_iff n).2 h.2)]; rfl

theorem c_ref02_Wild (n : Str) : Pure Tryz.prog 123 #[.string (ba n)] (.bool (wildN n)) := by
 intro w0
 refine calls_of_W (ok0 := no) (S := []) (args := [.string (ba n)]) 21 Tryz.func123 rfl rfl rfl (by simp) (by simp) ?_
 refine w_seq ?_
 refine w_region ?_
 refine o_y (y_assign rfl) rfl rfl ?_
 refine wl_nil ?_
 refine e_seq ?_
 refine w_seq ?_
 refine w_region ?_
 refine o_y (y_move rfl) rfl rfl ?_
 refine o_callp rfl ent_83 (c_ref02_Check _) rfl ?_
 refine o_y (y_eql rfl rfl) rfl rfl ?_
 refine wl_splitp (t := 5) rfl (fun h1_2 => ?_) (fun h1_2 => ?_)
 refine o_y (y_move rfl) rfl rfl ?_
 refine wl_gyes rfl rfl ?_
 refine o_y (y_move rfl) rfl rfl ?_
 refine wl_gyes rfl rfl ?_
 refine o_y (y_lens Tryz.underlying36 rfl) rfl rfl ?_
 refine wl_gyes rfl rfl ?_
 refine o_y (y_gtr rfl rfl) rfl rfl ?_
 refine wl_splitp (t := 9) rfl (fun h1_6 => ?_) (fun h1_6 => ?_)
 refine o_y (y_pick_t rfl rfl) rfl rfl ?_
 refine o_y (y_move rfl) rfl rfl ?_
 refine wl_gyes rfl rfl ?_
 refine o_y (y_move rfl) rfl rfl ?_
 refine wl_gyes rfl rfl ?_
 refine o_y (y_indexs (k := 0) Tryz.underlying36 rfl rfl rfl (by omega)) rfl rfl ?_
 refine wl_gyes rfl rfl ?_
 refine o_y (y_eql rfl rfl) rfl rfl ?_
 refine wl_splitp (t := 14) rfl (fun h1_11 => ?_) (fun h1_11 => ?_)
 refine o_y (y_pick_t rfl rfl) rfl rfl ?_
 refine o_y (y_move rfl) rfl rfl ?_
 refine wl_gyes rfl rfl ?_
 refine o_y (y_move rfl) rfl rfl ?_
 refine wl_gyes rfl rfl ?_
 refine o_y (y_indexs (k := 1) Tryz.underlying36 rfl rfl rfl (by omega)) rfl rfl ?_
 refine wl_gyes rfl rfl ?_
 refine o_y (y_eql rfl rfl) rfl rfl ?_
 refine o_y (y_pick_t rfl rfl) rfl rfl ?_
 refine o_y (y_assign rfl) rfl rfl ?_
 refine wl_nil ?_
 refine e_seq ?_
 refine w_ret ?_
 refine e_ret (ts := [2]) rfl rfl rfl (fun w hw => ?_)
 refine ⟨?_, hw.base⟩
 show Ending.returned (.bool _) = _
 congr 2
 focus first
   | exact (wild_no (by omega)).symm
   | (by_cases h9 : bt n 1 = 42
      · rw [wild_yes (by omega), decide_eq_true (by omega)]
      · rw [wild_no (by omega), decide_eq_false (by omega)])
   | (trace_state; fail)
 refine o_y (y_pick_t rfl rfl) rfl rfl ?_
 refine o_y (y_move rfl) rfl rfl ?_
 refine wl_gno rfl rfl rfl rfl ?_
 refine wl_gno rfl rfl rfl rfl ?_
 refine wl_gno rfl rfl rfl rfl ?_
 refine o_y (y_pick_f rfl rfl) rfl rfl ?_
 refine o_y (y_assign rfl) rfl rfl ?_
 refine wl_nil ?_
 refine e_seq ?_
 refine w_ret ?_
 refine e_ret (ts := [2]) rfl rfl rfl (fun w hw => ?_)
 refine ⟨?_, hw.base⟩
 show Ending.returned (.bool _) = _
 congr 2
 focus first
   | exact (wild_no (by omega)).symm
   | (by_cases h9 : bt n 1 = 42
      · rw [wild_yes (by omega), decide_eq_true (by omega)]
      · rw [wild_no (by omega), decide_eq_false (by omega)])
   | (trace_state; fail)
 refine o_y (y_pick_t rfl rfl) rfl rfl ?_
 refine o_y (y_move rfl) rfl rfl ?_
 refine wl_gno rfl rfl rfl rfl ?_
 refine wl_gno rfl rfl rfl rfl ?_
 refine wl_gno rfl rfl rfl rfl ?_
 refine o_y (y_pick_f rfl rfl) rfl rfl ?_
 refine o_y (y_move rfl) rfl rfl ?_
 refine wl_gno rfl rfl rfl rfl ?_
 refine wl_gno rfl rfl rfl rfl ?_
 refine wl_gno rfl rfl rfl rfl ?_
 refine o_y (y_pick_f rfl rfl) rfl rfl ?_
 refine o_y (y_assign rfl) rfl rfl ?_
 refine wl_nil ?_
 refine e_seq ?_
 refine w_ret ?_
 refine e_ret (ts := [2]) rfl rfl rfl (fun w hw => ?_)
 refine ⟨?_, hw.base⟩
 show Ending.returned (.bool _) = _
 congr 2
 focus first
   | exact (wild_no (by omega)).symm
   | (by_cases h9 : bt n 1 = 42
      · rw [wild_yes (by omega), decide_eq_true (by omega)]
      · rw [wild_no (by omega), decide_eq_false (by omega)])
   | (trace_state; fail)
 refine o_y (y_move rfl) rfl rfl ?_
 refine wl_gno rfl rfl rfl rfl ?_
 refine wl_gno rfl rfl rfl rfl ?_
 refine wl_gno rfl rfl rfl rfl ?_
 refine o_y (y_pick_f rfl rfl) rfl rfl ?_
 refine o_y (y_move rfl) rfl rfl ?_
 refine wl_gno rfl rfl rfl rfl ?_
 refine wl_gno rfl rfl rfl rfl ?_
 refine wl_gno rfl rfl rfl rfl ?_
 refine o_y (y_pick_f rfl rfl) rfl rfl ?_
 refine o_y (y_move rfl) rfl rfl ?_
 refine wl_gno rfl rfl rfl rfl ?_
 refine wl_gno rfl rfl rfl rfl ?_
 refine wl_gno rfl rfl rfl rfl ?_
 refine o_y (y_pick_f rfl rfl) rfl rfl ?_
 refine o_y (y_assign rfl) rfl rfl ?_
 refine wl_nil ?_
 refine e_seq ?_
 refine w_ret ?_
 refine e_ret (ts := [2]) rfl rfl rfl (fun w hw => ?_)
 refine ⟨?_, hw.base⟩
 show Ending.returned (.bool _) = _
 congr 2
 focus first
   | exact (wild_no (by omega)).symm
   | (by_cases h9 : bt n 1 = 42
      · rw [wild_yes (by omega), decide_eq_true (by omega)]
      · rw [wild_no (by omega), decide_eq_false (by omega)])
   | (trace_state; fail)

theorem ent_bad {e : En} (h1 : ¬ nameCk e.host ≠ 0) (h : e.host = [] ∨ 2147483647 < e.ttl ∨ portsOk e.ports = false ∨ mayOk e = false) : entCk e = 2 := by rw [entCk, if_neg h1, if_pos h]
theorem ent_good {e : En} (h1 : ¬ nameCk e.host ≠ 0) (h2 : ¬ e.host = []) (h3 : ¬ 2147483647 < e.ttl) (h4 : portsOk e.ports = true) (h5 : mayOk e = true) : entCk e = 0 := by
  rw [entCk, if_neg h1, if_neg (by rw [h4, h5]; simp [h2, h3])]
theorem ports_yes {l : List Int} (h : ∀ i, i < l.length → portOk l i) (h8 : l.length ≤ 8) : portsOk l = true := by rw [ports_end h, decide_eq_true h8]
theorem ports_long {l : List Int} (h8 : ¬ l.length ≤ 8) : portsOk l = false := by rw [portsOk, decide_eq_false h8, Bool.and_false]
theorem adsOk_eq (l : List Ad) : adsOk l = (adsR l && decide (1 ≤ l.length) && decide (l.length ≤ 8)) := rfl

set_option maxRecDepth 100000 in
theorem c_ref16_Check (e : En) (A B : Option Addr) (c d : Nat) (hwa : ∀ a ∈ e.addrs, 0 ≤ a.lo) (hla : e.addrs.length ≤ 1000000000000) (hlp : e.ports.length ≤ 1000000000000) (hk : -9223372036854775808 ≤ e.kind ∧ e.kind ≤ 9223372036854775807) : RC Tryz.prog 82 #[.agg (enC e A B c d).toArray] [Ch.rd A 3 adC e.addrs, Ch.rd B 1 enci e.ports] (α := Unit) (fun _ => .int .i64 (entCk e)) (fun _ => []) := by
 refine rc_of_W (args := [.agg (enC e A B c d).toArray]) 148 Tryz.func82 rfl rfl rfl (fun w0 => ?_)
 refine w_seq ?_
 refine w_region ?_
 refine o_box rfl rfl rfl (fun b1 => ?_)
 refine o_y (y_assign rfl) rfl rfl ?_
 refine wl_nil ?_
 refine e_seq ?_
 refine w_seq ?_
 refine w_region ?_
 refine o_y (y_field fa_47_0 rfl) rfl rfl ?_
 refine o_y (y_loadr 0 ty_36 rfl rfl rfl) rfl rfl ?_
 refine o_callp rfl ent_83 (c_ref02_Check _) rfl ?_
 refine o_y (y_assign rfl) rfl rfl ?_
 refine wl_nil ?_
 refine e_seq ?_
 refine w_seq ?_
 refine w_seq ?_
 refine w_region ?_
 refine o_y (y_move rfl) rfl rfl ?_
 refine o_y (y_neq rfl rfl) rfl rfl ?_
 refine wl_splitp (t := 10) rfl (fun h2_1 => ?_) (fun h2_1 => ?_)
 refine wl_nil ?_
 refine e_seq ?_
 refine w_cond_t rfl ?_
 refine w_seq ?_
 refine w_region ?_
 refine o_y (y_move rfl) rfl rfl ?_
 refine o_y (y_assign rfl) rfl rfl ?_
 refine wl_nil ?_
 refine e_seq ?_
 refine w_ret ?_
 refine e_seq_ret ?_
 refine e_ret (ts := [2]) rfl rfl rfl (fun w hw => ?_)
 focus first
   | exact ⟨(), by rw [entCk, if_pos h2_1]; rfl, hw.base, (hw.weak (List.nil_sublist _) (fun s hs => hs)).toNews⟩
   | exact ⟨(), by rw [ent_bad h2_1 (.inl h4_2)]; rfl, hw.base, (hw.weak (List.nil_sublist _) (fun s hs => hs)).toNews⟩
   | exact ⟨(), by rw [ent_bad h2_1 (.inr (.inl h4_6))]; rfl, hw.base, (hw.weak (List.nil_sublist _) (fun s hs => hs)).toNews⟩
   | exact ⟨(), by rw [ent_bad h2_1 (.inr (.inr (.inl (ports_long (by omega)))))]; rfl, hw.base, (hw.weak (List.nil_sublist _) (fun s hs => hs)).toNews⟩
   | exact ⟨(), by rw [ent_bad h2_1 (.inr (.inr (.inl (ports_bad (k := k) (by omega) (fun h => by have q1 := h.1; have q2 := h.2.1; have q3 := h.2.2; omega)))))]; rfl, hw.base, (hw.weak (List.nil_sublist _) (fun s hs => hs)).toNews⟩
   | (trace_state; fail)
 refine wl_nil ?_
 refine e_seq ?_
 refine w_cond_f rfl ?_
 refine w_skip ?_
 refine e_seq ?_
 refine w_seq ?_
 refine w_seq ?_
 refine w_region ?_
 refine o_y (y_field fa_47_0 rfl) rfl rfl ?_
 refine o_y (y_loadr 0 ty_36 rfl rfl rfl) rfl rfl ?_
 refine o_y (y_eqls rfl rfl) rfl rfl ?_
 refine wl_splitp (t := 14) rfl (fun h4_2 => ?_) (fun h4_2 => ?_)
 refine o_y (y_move rfl) rfl rfl ?_
 refine wl_gno rfl rfl rfl rfl ?_
 refine wl_gno rfl rfl rfl rfl ?_
 refine wl_gno rfl rfl rfl rfl ?_
 refine o_y (y_pick_t rfl rfl) rfl rfl ?_
 refine o_y (y_move rfl) rfl rfl ?_
 refine wl_gno rfl rfl rfl rfl ?_
 refine wl_gno rfl rfl rfl rfl ?_
 refine wl_gno rfl rfl rfl rfl ?_
 refine wl_gno rfl rfl rfl rfl ?_
 refine o_y (y_pick_t rfl rfl) rfl rfl ?_
 refine wl_nil ?_
 refine e_seq ?_
 refine w_cond_t rfl ?_
 refine w_seq ?_
 refine w_region ?_
 refine o_y (y_assign rfl) rfl rfl ?_
 refine wl_nil ?_
 refine e_seq ?_
 refine w_ret ?_
 refine e_seq_ret ?_
 refine e_ret (ts := [2]) rfl rfl rfl (fun w hw => ?_)
 focus first
   | exact ⟨(), by rw [entCk, if_pos h2_1]; rfl, hw.base, (hw.weak (List.nil_sublist _) (fun s hs => hs)).toNews⟩
   | exact ⟨(), by rw [ent_bad h2_1 (.inl h4_2)]; rfl, hw.base, (hw.weak (List.nil_sublist _) (fun s hs => hs)).toNews⟩
   | exact ⟨(), by rw [ent_bad h2_1 (.inr (.inl h4_6))]; rfl, hw.base, (hw.weak (List.nil_sublist _) (fun s hs => hs)).toNews⟩
   | exact ⟨(), by rw [ent_bad h2_1 (.inr (.inr (.inl (ports_long (by omega)))))]; rfl, hw.base, (hw.weak (List.nil_sublist _) (fun s hs => hs)).toNews⟩
   | exact ⟨(), by rw [ent_bad h2_1 (.inr (.inr (.inl (ports_bad (k := k) (by omega) (fun h => by have q1 := h.1; have q2 := h.2.1; have q3 := h.2.2; omega)))))]; rfl, hw.base, (hw.weak (List.nil_sublist _) (fun s hs => hs)).toNews⟩
   | (trace_state; fail)
 refine o_y (y_move rfl) rfl rfl ?_
 refine wl_gyes rfl rfl ?_
 refine o_y (y_field fa_47_6 rfl) rfl rfl ?_
 refine wl_gyes rfl rfl ?_
 refine o_y (y_loadr 0 ty_45 rfl rfl rfl) rfl rfl ?_
 refine wl_gyes rfl rfl ?_
 refine o_y (y_gtr rfl rfl) rfl rfl ?_
 refine wl_splitp (t := 18) rfl (fun h4_6 => ?_) (fun h4_6 => ?_)
 refine o_y (y_pick_f rfl rfl) rfl rfl ?_
 refine o_y (y_move rfl) rfl rfl ?_
 refine wl_gno rfl rfl rfl rfl ?_
 refine wl_gno rfl rfl rfl rfl ?_
 refine wl_gno rfl rfl rfl rfl ?_
 refine wl_gno rfl rfl rfl rfl ?_
 refine o_y (y_pick_t rfl rfl) rfl rfl ?_
 refine wl_nil ?_
 refine e_seq ?_
 refine w_cond_t rfl ?_
 refine w_seq ?_
 refine w_region ?_
 refine o_y (y_assign rfl) rfl rfl ?_
 refine wl_nil ?_
 refine e_seq ?_
 refine w_ret ?_
 refine e_seq_ret ?_
 refine e_ret (ts := [2]) rfl rfl rfl (fun w hw => ?_)
 focus first
   | exact ⟨(), by rw [entCk, if_pos h2_1]; rfl, hw.base, (hw.weak (List.nil_sublist _) (fun s hs => hs)).toNews⟩
   | exact ⟨(), by rw [ent_bad h2_1 (.inl h4_2)]; rfl, hw.base, (hw.weak (List.nil_sublist _) (fun s hs => hs)).toNews⟩
   | exact ⟨(), by rw [ent_bad h2_1 (.inr (.inl h4_6))]; rfl, hw.base, (hw.weak (List.nil_sublist _) (fun s hs => hs)).toNews⟩
   | exact ⟨(), by rw [ent_bad h2_1 (.inr (.inr (.inl (ports_long (by omega)))))]; rfl, hw.base, (hw.weak (List.nil_sublist _) (fun s hs => hs)).toNews⟩
   | exact ⟨(), by rw [ent_bad h2_1 (.inr (.inr (.inl (ports_bad (k := k) (by omega) (fun h => by have q1 := h.1; have q2 := h.2.1; have q3 := h.2.2; omega)))))]; rfl, hw.base, (hw.weak (List.nil_sublist _) (fun s hs => hs)).toNews⟩
   | (trace_state; fail)
 refine o_y (y_pick_f rfl rfl) rfl rfl ?_
 refine o_y (y_move rfl) rfl rfl ?_
 refine wl_gyes rfl rfl ?_
 refine o_y (y_field fa_47_5 rfl) rfl rfl ?_
 refine wl_gyes rfl rfl ?_
 refine o_y (y_loadr 0 ty_44 rfl rfl rfl) rfl rfl ?_
 refine wl_gyes rfl rfl ?_
 refine o_y (y_lenl Tryz.underlying44 rfl) rfl rfl ?_
 refine wl_gyes rfl rfl ?_
 refine o_y (y_gtr rfl rfl) rfl rfl ?_
 refine wl_splitp (t := 24) rfl (fun h4_12 => ?_) (fun h4_12 => ?_)
 refine o_y (y_pick_f rfl rfl) rfl rfl ?_
 refine wl_nil ?_
 refine e_seq ?_
 refine w_cond_t rfl ?_
 refine w_seq ?_
 refine w_region ?_
 refine o_y (y_assign rfl) rfl rfl ?_
 refine wl_nil ?_
 refine e_seq ?_
 refine w_ret ?_
 refine e_seq_ret ?_
 refine e_ret (ts := [2]) rfl rfl rfl (fun w hw => ?_)
 focus first
   | exact ⟨(), by rw [entCk, if_pos h2_1]; rfl, hw.base, (hw.weak (List.nil_sublist _) (fun s hs => hs)).toNews⟩
   | exact ⟨(), by rw [ent_bad h2_1 (.inl h4_2)]; rfl, hw.base, (hw.weak (List.nil_sublist _) (fun s hs => hs)).toNews⟩
   | exact ⟨(), by rw [ent_bad h2_1 (.inr (.inl h4_6))]; rfl, hw.base, (hw.weak (List.nil_sublist _) (fun s hs => hs)).toNews⟩
   | exact ⟨(), by rw [ent_bad h2_1 (.inr (.inr (.inl (ports_long (by omega)))))]; rfl, hw.base, (hw.weak (List.nil_sublist _) (fun s hs => hs)).toNews⟩
   | exact ⟨(), by rw [ent_bad h2_1 (.inr (.inr (.inl (ports_bad (k := k) (by omega) (fun h => by have q1 := h.1; have q2 := h.2.1; have q3 := h.2.2; omega)))))]; rfl, hw.base, (hw.weak (List.nil_sublist _) (fun s hs => hs)).toNews⟩
   | (trace_state; fail)
 refine o_y (y_pick_f rfl rfl) rfl rfl ?_
 refine wl_nil ?_
 refine e_seq ?_
 refine w_cond_f rfl ?_
 refine w_skip ?_
 refine e_seq ?_
 refine w_seq ?_
 refine w_seq ?_
 refine w_region ?_
 refine o_y (y_assign rfl) rfl rfl ?_
 refine wl_nil ?_
 refine e_seq ?_
 refine w_block ?_
 refine w_loop0 (σ := Nat) [2, 4, 26, 27, 28, 29, 30, 31, 32, 33, 34, 35, 36, 37, 38, 39, 40, 41, 42, 43, 44, 45, 46, 47, 48, 49, 50, 51, 52, 53, 54, 55, 56, 57, 58, 59, 60, 61, 62, 63, 64] (fun k => k ≤ e.ports.length ∧ ∀ i, i < k → portOk e.ports i) (fun k => e.ports.length - k) (fun k => [(4, .int .i64 k)]) (0) ?_ ⟨rfl, trivial⟩ (fun k hI => ?_)
 exact ⟨Nat.zero_le _, nofun⟩
 refine w_seq ?_
 refine w_seq ?_
 refine w_region ?_
 refine o_y (y_move rfl) rfl rfl ?_
 refine o_y (y_field fa_47_5 rfl) rfl rfl ?_
 refine o_y (y_loadr 0 ty_44 rfl rfl rfl) rfl rfl ?_
 refine o_y (y_lenl Tryz.underlying44 rfl) rfl rfl ?_
 refine o_y (y_lss rfl rfl) rfl rfl ?_
 refine wl_splitp (t := 30) rfl (fun h7_4 => ?_) (fun h7_4 => ?_)
 refine wl_nil ?_
 refine e_seq ?_
 refine w_cond_t rfl ?_
 refine w_skip ?_
 refine e_seq ?_
 refine w_seq ?_
 refine w_block ?_
 refine w_seq ?_
 refine w_draw 32 rfl mixed ?_
 refine a_take (i := 0) rfl wanted_none (y_field fa_47_5 rfl) (fun w h => h) (fun w h => h) rfl (pk_seq (pk_blk (pk_seq (pk_loop (pk_blk (pk_seq pk_fn)))))) (by kernel_rfl) rfl ?_
 refine a_take (i := 1) rfl wanted_none (y_loadr 0 ty_44 rfl rfl rfl) (fun w h => h) (fun w h => h) rfl (pk_seq (pk_blk (pk_seq (pk_loop (pk_blk (pk_seq pk_fn)))))) (by kernel_rfl) rfl ?_
 refine a_take (i := 2) rfl wanted_none (y_move rfl) (fun w h => h) (fun w h => h) rfl (pk_seq (pk_blk (pk_seq (pk_loop (pk_blk (pk_seq pk_fn)))))) (by kernel_rfl) rfl ?_
 refine a_take (i := 3) rfl wanted_none (y_ixm  Tryz.underlying44 ty_3 rfl rfl (rs_S 1 rfl) rfl (by omega)) (fun w h => h) (fun w h => h) rfl (pk_seq (pk_blk (pk_seq (pk_loop (pk_blk (pk_seq pk_fn)))))) (by kernel_rfl) rfl ?_
 refine a_take (i := 4) rfl wanted_none (y_ldm0 enc_i (0 : Int) ty_3 rfl (rs_S 1 rfl) (by omega) rfl rfl) (fun w h => h) (fun w h => h) rfl (pk_seq (pk_blk (pk_seq (pk_loop (pk_blk (pk_seq pk_fn)))))) (by kernel_rfl) rfl ?_
 refine a_take (i := 5) rfl wanted_none (y_lss rfl rfl) (fun w h => h) (fun w h => h) rfl (pk_seq (pk_blk (pk_seq (pk_loop (pk_blk (pk_seq pk_fn)))))) (by kernel_rfl) rfl ?_
 refine wa_splitp (t := 38) rfl (fun h9_5 => ?_) (fun h9_5 => ?_)
 refine a_take (i := 6) rfl wanted_none (y_move rfl) (fun w h => h) (fun w h => h) rfl (pk_seq (pk_blk (pk_seq (pk_loop (pk_blk (pk_seq pk_fn)))))) (by kernel_rfl) rfl ?_
 refine a_skip (i := 7) rfl (wanted_no rfl rfl rfl) (fun w h => h) rfl (pk_seq (pk_blk (pk_seq (pk_loop (pk_blk (pk_seq pk_fn)))))) (by kernel_rfl) rfl ?_
 refine a_skip (i := 8) rfl (wanted_no rfl rfl rfl) (fun w h => h) rfl (pk_seq (pk_blk (pk_seq (pk_loop (pk_blk (pk_seq pk_fn)))))) (by kernel_rfl) rfl ?_
 refine a_skip (i := 9) rfl (wanted_no rfl rfl rfl) (fun w h => h) rfl (pk_seq (pk_blk (pk_seq (pk_loop (pk_blk (pk_seq pk_fn)))))) (by kernel_rfl) rfl ?_
 refine a_skip (i := 10) rfl (wanted_no rfl rfl rfl) (fun w h => h) rfl (pk_seq (pk_blk (pk_seq (pk_loop (pk_blk (pk_seq pk_fn)))))) (by kernel_rfl) rfl ?_
 refine a_skip (i := 11) rfl (wanted_no rfl rfl rfl) (fun w h => h) rfl (pk_seq (pk_blk (pk_seq (pk_loop (pk_blk (pk_seq pk_fn)))))) (by kernel_rfl) rfl ?_
 refine a_skip (i := 12) rfl (wanted_no rfl rfl rfl) (fun w h => h) rfl (pk_seq (pk_blk (pk_seq (pk_loop (pk_blk (pk_seq pk_fn)))))) (by kernel_rfl) rfl ?_
 refine a_take (i := 13) rfl wanted_none (y_pick_t rfl rfl) (fun w h => h) (fun w h => h) rfl (pk_seq (pk_blk (pk_seq (pk_loop (pk_blk (pk_seq pk_fn)))))) (by kernel_rfl) rfl ?_
 refine a_take (i := 14) rfl wanted_none (y_move rfl) (fun w h => h) (fun w h => h) rfl (pk_seq (pk_blk (pk_seq (pk_loop (pk_blk (pk_seq pk_fn)))))) (by kernel_rfl) rfl ?_
 refine a_skip (i := 15) rfl (wanted_no rfl rfl rfl) (fun w h => h) rfl (pk_seq (pk_blk (pk_seq (pk_loop (pk_blk (pk_seq pk_fn)))))) (by kernel_rfl) rfl ?_
 refine a_skip (i := 16) rfl (wanted_no rfl rfl rfl) (fun w h => h) rfl (pk_seq (pk_blk (pk_seq (pk_loop (pk_blk (pk_seq pk_fn)))))) (by kernel_rfl) rfl ?_
 refine a_skip (i := 17) rfl (wanted_no rfl rfl rfl) (fun w h => h) rfl (pk_seq (pk_blk (pk_seq (pk_loop (pk_blk (pk_seq pk_fn)))))) (by kernel_rfl) rfl ?_
 refine a_skip (i := 18) rfl (wanted_nou rfl rfl) (fun w h => h) rfl (pk_seq (pk_blk (pk_seq (pk_loop (pk_blk (pk_seq pk_fn)))))) (by kernel_rfl) rfl ?_
 refine a_skip (i := 19) rfl (wanted_nou rfl rfl) (fun w h => h) rfl (pk_seq (pk_blk (pk_seq (pk_loop (pk_blk (pk_seq pk_fn)))))) (by kernel_rfl) rfl ?_
 refine a_skip (i := 20) rfl (wanted_nou rfl rfl) (fun w h => h) rfl (pk_seq (pk_blk (pk_seq (pk_loop (pk_blk (pk_seq pk_fn)))))) (by kernel_rfl) rfl ?_
 refine a_skip (i := 21) rfl (wanted_nou rfl rfl) (fun w h => h) rfl (pk_seq (pk_blk (pk_seq (pk_loop (pk_blk (pk_seq pk_fn)))))) (by kernel_rfl) rfl ?_
 refine a_skip (i := 22) rfl (wanted_nou rfl rfl) (fun w h => h) rfl (pk_seq (pk_blk (pk_seq (pk_loop (pk_blk (pk_seq pk_fn)))))) (by kernel_rfl) rfl ?_
 refine a_skip (i := 23) rfl (wanted_nou rfl rfl) (fun w h => h) rfl (pk_seq (pk_blk (pk_seq (pk_loop (pk_blk (pk_seq pk_fn)))))) (by kernel_rfl) rfl ?_
 refine a_skip (i := 24) rfl (wanted_nou rfl rfl) (fun w h => h) rfl (pk_seq (pk_blk (pk_seq (pk_loop (pk_blk (pk_seq pk_fn)))))) (by kernel_rfl) rfl ?_
 refine a_skip (i := 25) rfl (wanted_nou rfl rfl) (fun w h => h) rfl (pk_seq (pk_blk (pk_seq (pk_loop (pk_blk (pk_seq pk_fn)))))) (by kernel_rfl) rfl ?_
 refine a_skip (i := 26) rfl (wanted_nou rfl rfl) (fun w h => h) rfl (pk_seq (pk_blk (pk_seq (pk_loop (pk_blk (pk_seq pk_fn)))))) (by kernel_rfl) rfl ?_
 refine a_skip (i := 27) rfl (wanted_nou rfl rfl) (fun w h => h) rfl (pk_seq (pk_blk (pk_seq (pk_loop (pk_blk (pk_seq pk_fn)))))) (by kernel_rfl) rfl ?_
 refine a_skip (i := 28) rfl (wanted_nou rfl rfl) (fun w h => h) rfl (pk_seq (pk_blk (pk_seq (pk_loop (pk_blk (pk_seq pk_fn)))))) (by kernel_rfl) rfl ?_
 refine a_skip (i := 29) rfl (wanted_nou rfl rfl) (fun w h => h) rfl (pk_seq (pk_blk (pk_seq (pk_loop (pk_blk (pk_seq pk_fn)))))) (by kernel_rfl) rfl ?_
 refine a_skip (i := 30) rfl (wanted_no rfl rfl rfl) (fun w h => h) rfl (pk_seq (pk_blk (pk_seq (pk_loop (pk_blk (pk_seq pk_fn)))))) (by kernel_rfl) rfl ?_
 refine a_take (i := 31) rfl wanted_none (y_pick_t rfl rfl) (fun w h => h) (fun w h => h) rfl (pk_seq (pk_blk (pk_seq (pk_loop (pk_blk (pk_seq pk_fn)))))) (by kernel_rfl) rfl ?_
 refine a_done (by kernel_rfl) ?_
 refine e_seq ?_
 refine w_cond_t rfl ?_
 refine w_seq ?_
 refine w_region ?_
 refine o_y (y_assign rfl) rfl rfl ?_
 refine wl_nil ?_
 refine e_seq ?_
 refine w_ret ?_
 refine e_blk_ret ?_
 refine e_seq_ret ?_
 refine e_loop_ret ?_
 refine e_blk_ret ?_
 refine e_seq_ret ?_
 refine e_ret (ts := [2]) rfl rfl rfl (fun w hw => ?_)
 focus first
   | exact ⟨(), by rw [entCk, if_pos h2_1]; rfl, hw.base, (hw.weak (List.nil_sublist _) (fun s hs => hs)).toNews⟩
   | exact ⟨(), by rw [ent_bad h2_1 (.inl h4_2)]; rfl, hw.base, (hw.weak (List.nil_sublist _) (fun s hs => hs)).toNews⟩
   | exact ⟨(), by rw [ent_bad h2_1 (.inr (.inl h4_6))]; rfl, hw.base, (hw.weak (List.nil_sublist _) (fun s hs => hs)).toNews⟩
   | exact ⟨(), by rw [ent_bad h2_1 (.inr (.inr (.inl (ports_long (by omega)))))]; rfl, hw.base, (hw.weak (List.nil_sublist _) (fun s hs => hs)).toNews⟩
   | exact ⟨(), by rw [ent_bad h2_1 (.inr (.inr (.inl (ports_bad (k := k) (by omega) (fun h => by have q1 := h.1; have q2 := h.2.1; have q3 := h.2.2; omega)))))]; rfl, hw.base, (hw.weak (List.nil_sublist _) (fun s hs => hs)).toNews⟩
   | (trace_state; fail)
 refine a_take (i := 6) rfl wanted_none (y_move rfl) (fun w h => h) (fun w h => h) rfl (pk_seq (pk_blk (pk_seq (pk_loop (pk_blk (pk_seq pk_fn)))))) (by kernel_rfl) rfl ?_
 refine a_take (i := 7) rfl (wanted_yes rfl rfl) (y_field fa_47_5 rfl) (fun w h => h) (fun w h => h) rfl (pk_seq (pk_blk (pk_seq (pk_loop (pk_blk (pk_seq pk_fn)))))) (by kernel_rfl) rfl ?_
 refine a_take (i := 8) rfl (wanted_yes rfl rfl) (y_loadr 0 ty_44 rfl rfl rfl) (fun w h => h) (fun w h => h) rfl (pk_seq (pk_blk (pk_seq (pk_loop (pk_blk (pk_seq pk_fn)))))) (by kernel_rfl) rfl ?_
 refine a_take (i := 9) rfl (wanted_yes rfl rfl) (y_move rfl) (fun w h => h) (fun w h => h) rfl (pk_seq (pk_blk (pk_seq (pk_loop (pk_blk (pk_seq pk_fn)))))) (by kernel_rfl) rfl ?_
 refine a_take (i := 10) rfl (wanted_yes rfl rfl) (y_ixm  Tryz.underlying44 ty_3 rfl rfl (rs_S 1 rfl) rfl (by omega)) (fun w h => h) (fun w h => h) rfl (pk_seq (pk_blk (pk_seq (pk_loop (pk_blk (pk_seq pk_fn)))))) (by kernel_rfl) rfl ?_
 refine a_take (i := 11) rfl (wanted_yes rfl rfl) (y_ldm0 enc_i (0 : Int) ty_3 rfl (rs_S 1 rfl) (by omega) rfl rfl) (fun w h => h) (fun w h => h) rfl (pk_seq (pk_blk (pk_seq (pk_loop (pk_blk (pk_seq pk_fn)))))) (by kernel_rfl) rfl ?_
 refine a_take (i := 12) rfl (wanted_yes rfl rfl) (y_gtr rfl rfl) (fun w h => h) (fun w h => h) rfl (pk_seq (pk_blk (pk_seq (pk_loop (pk_blk (pk_seq pk_fn)))))) (by kernel_rfl) rfl ?_
 refine wa_splitp (t := 45) rfl (fun h9_12 => ?_) (fun h9_12 => ?_)
 refine a_take (i := 13) rfl wanted_none (y_pick_f rfl rfl) (fun w h => h) (fun w h => h) rfl (pk_seq (pk_blk (pk_seq (pk_loop (pk_blk (pk_seq pk_fn)))))) (by kernel_rfl) rfl ?_
 refine a_take (i := 14) rfl wanted_none (y_move rfl) (fun w h => h) (fun w h => h) rfl (pk_seq (pk_blk (pk_seq (pk_loop (pk_blk (pk_seq pk_fn)))))) (by kernel_rfl) rfl ?_
 refine a_skip (i := 15) rfl (wanted_no rfl rfl rfl) (fun w h => h) rfl (pk_seq (pk_blk (pk_seq (pk_loop (pk_blk (pk_seq pk_fn)))))) (by kernel_rfl) rfl ?_
 refine a_skip (i := 16) rfl (wanted_no rfl rfl rfl) (fun w h => h) rfl (pk_seq (pk_blk (pk_seq (pk_loop (pk_blk (pk_seq pk_fn)))))) (by kernel_rfl) rfl ?_
 refine a_skip (i := 17) rfl (wanted_no rfl rfl rfl) (fun w h => h) rfl (pk_seq (pk_blk (pk_seq (pk_loop (pk_blk (pk_seq pk_fn)))))) (by kernel_rfl) rfl ?_
 refine a_skip (i := 18) rfl (wanted_nou rfl rfl) (fun w h => h) rfl (pk_seq (pk_blk (pk_seq (pk_loop (pk_blk (pk_seq pk_fn)))))) (by kernel_rfl) rfl ?_
 refine a_skip (i := 19) rfl (wanted_nou rfl rfl) (fun w h => h) rfl (pk_seq (pk_blk (pk_seq (pk_loop (pk_blk (pk_seq pk_fn)))))) (by kernel_rfl) rfl ?_
 refine a_skip (i := 20) rfl (wanted_nou rfl rfl) (fun w h => h) rfl (pk_seq (pk_blk (pk_seq (pk_loop (pk_blk (pk_seq pk_fn)))))) (by kernel_rfl) rfl ?_
 refine a_skip (i := 21) rfl (wanted_nou rfl rfl) (fun w h => h) rfl (pk_seq (pk_blk (pk_seq (pk_loop (pk_blk (pk_seq pk_fn)))))) (by kernel_rfl) rfl ?_
 refine a_skip (i := 22) rfl (wanted_nou rfl rfl) (fun w h => h) rfl (pk_seq (pk_blk (pk_seq (pk_loop (pk_blk (pk_seq pk_fn)))))) (by kernel_rfl) rfl ?_
 refine a_skip (i := 23) rfl (wanted_nou rfl rfl) (fun w h => h) rfl (pk_seq (pk_blk (pk_seq (pk_loop (pk_blk (pk_seq pk_fn)))))) (by kernel_rfl) rfl ?_
 refine a_skip (i := 24) rfl (wanted_nou rfl rfl) (fun w h => h) rfl (pk_seq (pk_blk (pk_seq (pk_loop (pk_blk (pk_seq pk_fn)))))) (by kernel_rfl) rfl ?_
 refine a_skip (i := 25) rfl (wanted_nou rfl rfl) (fun w h => h) rfl (pk_seq (pk_blk (pk_seq (pk_loop (pk_blk (pk_seq pk_fn)))))) (by kernel_rfl) rfl ?_
 refine a_skip (i := 26) rfl (wanted_nou rfl rfl) (fun w h => h) rfl (pk_seq (pk_blk (pk_seq (pk_loop (pk_blk (pk_seq pk_fn)))))) (by kernel_rfl) rfl ?_
 refine a_skip (i := 27) rfl (wanted_nou rfl rfl) (fun w h => h) rfl (pk_seq (pk_blk (pk_seq (pk_loop (pk_blk (pk_seq pk_fn)))))) (by kernel_rfl) rfl ?_
 refine a_skip (i := 28) rfl (wanted_nou rfl rfl) (fun w h => h) rfl (pk_seq (pk_blk (pk_seq (pk_loop (pk_blk (pk_seq pk_fn)))))) (by kernel_rfl) rfl ?_
 refine a_skip (i := 29) rfl (wanted_nou rfl rfl) (fun w h => h) rfl (pk_seq (pk_blk (pk_seq (pk_loop (pk_blk (pk_seq pk_fn)))))) (by kernel_rfl) rfl ?_
 refine a_skip (i := 30) rfl (wanted_no rfl rfl rfl) (fun w h => h) rfl (pk_seq (pk_blk (pk_seq (pk_loop (pk_blk (pk_seq pk_fn)))))) (by kernel_rfl) rfl ?_
 refine a_take (i := 31) rfl wanted_none (y_pick_t rfl rfl) (fun w h => h) (fun w h => h) rfl (pk_seq (pk_blk (pk_seq (pk_loop (pk_blk (pk_seq pk_fn)))))) (by kernel_rfl) rfl ?_
 refine a_done (by kernel_rfl) ?_
 refine e_seq ?_
 refine w_cond_t rfl ?_
 refine w_seq ?_
 refine w_region ?_
 refine o_y (y_assign rfl) rfl rfl ?_
 refine wl_nil ?_
 refine e_seq ?_
 refine w_ret ?_
 refine e_blk_ret ?_
 refine e_seq_ret ?_
 refine e_loop_ret ?_
 refine e_blk_ret ?_
 refine e_seq_ret ?_
 refine e_ret (ts := [2]) rfl rfl rfl (fun w hw => ?_)
 focus first
   | exact ⟨(), by rw [entCk, if_pos h2_1]; rfl, hw.base, (hw.weak (List.nil_sublist _) (fun s hs => hs)).toNews⟩
   | exact ⟨(), by rw [ent_bad h2_1 (.inl h4_2)]; rfl, hw.base, (hw.weak (List.nil_sublist _) (fun s hs => hs)).toNews⟩
   | exact ⟨(), by rw [ent_bad h2_1 (.inr (.inl h4_6))]; rfl, hw.base, (hw.weak (List.nil_sublist _) (fun s hs => hs)).toNews⟩
   | exact ⟨(), by rw [ent_bad h2_1 (.inr (.inr (.inl (ports_long (by omega)))))]; rfl, hw.base, (hw.weak (List.nil_sublist _) (fun s hs => hs)).toNews⟩
   | exact ⟨(), by rw [ent_bad h2_1 (.inr (.inr (.inl (ports_bad (k := k) (by omega) (fun h => by have q1 := h.1; have q2 := h.2.1; have q3 := h.2.2; omega)))))]; rfl, hw.base, (hw.weak (List.nil_sublist _) (fun s hs => hs)).toNews⟩
   | (trace_state; fail)
 refine a_take (i := 13) rfl wanted_none (y_pick_f rfl rfl) (fun w h => h) (fun w h => h) rfl (pk_seq (pk_blk (pk_seq (pk_loop (pk_blk (pk_seq pk_fn)))))) (by kernel_rfl) rfl ?_
 refine a_take (i := 14) rfl wanted_none (y_move rfl) (fun w h => h) (fun w h => h) rfl (pk_seq (pk_blk (pk_seq (pk_loop (pk_blk (pk_seq pk_fn)))))) (by kernel_rfl) rfl ?_
 refine a_take (i := 15) rfl (wanted_yes rfl rfl) (y_move rfl) (fun w h => h) (fun w h => h) rfl (pk_seq (pk_blk (pk_seq (pk_loop (pk_blk (pk_seq pk_fn)))))) (by kernel_rfl) rfl ?_
 refine a_take (i := 16) rfl (wanted_yes rfl rfl) (y_gtr rfl rfl) (fun w h => h) (fun w h => h) rfl (pk_seq (pk_blk (pk_seq (pk_loop (pk_blk (pk_seq pk_fn)))))) (by kernel_rfl) rfl ?_
 refine wa_splitp (t := 49) rfl (fun h9_16 => ?_) (fun h9_16 => ?_)
 refine a_take (i := 17) rfl (wanted_yes rfl rfl) (y_move rfl) (fun w h => h) (fun w h => h) rfl (pk_seq (pk_blk (pk_seq (pk_loop (pk_blk (pk_seq pk_fn)))))) (by kernel_rfl) rfl ?_
 refine a_take (i := 18) rfl (wanted_yes rfl rfl) (y_field fa_47_5 rfl) (fun w h => h) (fun w h => h) rfl (pk_seq (pk_blk (pk_seq (pk_loop (pk_blk (pk_seq pk_fn)))))) (by kernel_rfl) rfl ?_
 refine a_take (i := 19) rfl (wanted_yes rfl rfl) (y_loadr 0 ty_44 rfl rfl rfl) (fun w h => h) (fun w h => h) rfl (pk_seq (pk_blk (pk_seq (pk_loop (pk_blk (pk_seq pk_fn)))))) (by kernel_rfl) rfl ?_
 refine a_take (i := 20) rfl (wanted_yes rfl rfl) (y_move rfl) (fun w h => h) (fun w h => h) rfl (pk_seq (pk_blk (pk_seq (pk_loop (pk_blk (pk_seq pk_fn)))))) (by kernel_rfl) rfl ?_
 refine a_take (i := 21) rfl (wanted_yes rfl rfl) (y_subi rfl rfl (by omega) (by omega)) (fun w h => h) (fun w h => h) rfl (pk_seq (pk_blk (pk_seq (pk_loop (pk_blk (pk_seq pk_fn)))))) (by kernel_rfl) rfl ?_
 refine a_take (i := 22) rfl (wanted_yes rfl rfl) (y_ixm (k := k - 1) Tryz.underlying44 ty_3 rfl rfl (rs_S 1 rfl) (by omega) (by omega)) (fun w h => h) (fun w h => h) rfl (pk_seq (pk_blk (pk_seq (pk_loop (pk_blk (pk_seq pk_fn)))))) (by kernel_rfl) rfl ?_
 refine a_take (i := 23) rfl (wanted_yes rfl rfl) (y_ldm0 enc_i (0 : Int) ty_3 rfl (rs_S 1 rfl) (by omega) rfl rfl) (fun w h => h) (fun w h => h) rfl (pk_seq (pk_blk (pk_seq (pk_loop (pk_blk (pk_seq pk_fn)))))) (by kernel_rfl) rfl ?_
 refine a_take (i := 24) rfl (wanted_yes rfl rfl) (y_field fa_47_5 rfl) (fun w h => h) (fun w h => h) rfl (pk_seq (pk_blk (pk_seq (pk_loop (pk_blk (pk_seq pk_fn)))))) (by kernel_rfl) rfl ?_
 refine a_take (i := 25) rfl (wanted_yes rfl rfl) (y_loadr 0 ty_44 rfl rfl rfl) (fun w h => h) (fun w h => h) rfl (pk_seq (pk_blk (pk_seq (pk_loop (pk_blk (pk_seq pk_fn)))))) (by kernel_rfl) rfl ?_
 refine a_take (i := 26) rfl (wanted_yes rfl rfl) (y_move rfl) (fun w h => h) (fun w h => h) rfl (pk_seq (pk_blk (pk_seq (pk_loop (pk_blk (pk_seq pk_fn)))))) (by kernel_rfl) rfl ?_
 refine a_take (i := 27) rfl (wanted_yes rfl rfl) (y_ixm  Tryz.underlying44 ty_3 rfl rfl (rs_S 1 rfl) rfl (by omega)) (fun w h => h) (fun w h => h) rfl (pk_seq (pk_blk (pk_seq (pk_loop (pk_blk (pk_seq pk_fn)))))) (by kernel_rfl) rfl ?_
 refine a_take (i := 28) rfl (wanted_yes rfl rfl) (y_ldm0 enc_i (0 : Int) ty_3 rfl (rs_S 1 rfl) (by omega) rfl rfl) (fun w h => h) (fun w h => h) rfl (pk_seq (pk_blk (pk_seq (pk_loop (pk_blk (pk_seq pk_fn)))))) (by kernel_rfl) rfl ?_
 refine a_take (i := 29) rfl (wanted_yes rfl rfl) (y_geq rfl rfl) (fun w h => h) (fun w h => h) rfl (pk_seq (pk_blk (pk_seq (pk_loop (pk_blk (pk_seq pk_fn)))))) (by kernel_rfl) rfl ?_
 refine wa_splitp (t := 62) rfl (fun h9_29 => ?_) (fun h9_29 => ?_)
 refine a_take (i := 30) rfl (wanted_yes rfl rfl) (y_pick_t rfl rfl) (fun w h => h) (fun w h => h) rfl (pk_seq (pk_blk (pk_seq (pk_loop (pk_blk (pk_seq pk_fn)))))) (by kernel_rfl) rfl ?_
 refine a_take (i := 31) rfl wanted_none (y_pick_f rfl rfl) (fun w h => h) (fun w h => h) rfl (pk_seq (pk_blk (pk_seq (pk_loop (pk_blk (pk_seq pk_fn)))))) (by kernel_rfl) rfl ?_
 refine a_done (by kernel_rfl) ?_
 refine e_seq ?_
 refine w_cond_t rfl ?_
 refine w_seq ?_
 refine w_region ?_
 refine o_y (y_assign rfl) rfl rfl ?_
 refine wl_nil ?_
 refine e_seq ?_
 refine w_ret ?_
 refine e_blk_ret ?_
 refine e_seq_ret ?_
 refine e_loop_ret ?_
 refine e_blk_ret ?_
 refine e_seq_ret ?_
 refine e_ret (ts := [2]) rfl rfl rfl (fun w hw => ?_)
 focus first
   | exact ⟨(), by rw [entCk, if_pos h2_1]; rfl, hw.base, (hw.weak (List.nil_sublist _) (fun s hs => hs)).toNews⟩
   | exact ⟨(), by rw [ent_bad h2_1 (.inl h4_2)]; rfl, hw.base, (hw.weak (List.nil_sublist _) (fun s hs => hs)).toNews⟩
   | exact ⟨(), by rw [ent_bad h2_1 (.inr (.inl h4_6))]; rfl, hw.base, (hw.weak (List.nil_sublist _) (fun s hs => hs)).toNews⟩
   | exact ⟨(), by rw [ent_bad h2_1 (.inr (.inr (.inl (ports_long (by omega)))))]; rfl, hw.base, (hw.weak (List.nil_sublist _) (fun s hs => hs)).toNews⟩
   | exact ⟨(), by rw [ent_bad h2_1 (.inr (.inr (.inl (ports_bad (k := k) (by omega) (fun h => by have q1 := h.1; have q2 := h.2.1; have q3 := h.2.2; omega)))))]; rfl, hw.base, (hw.weak (List.nil_sublist _) (fun s hs => hs)).toNews⟩
   | (trace_state; fail)
 refine a_take (i := 30) rfl (wanted_yes rfl rfl) (y_pick_t rfl rfl) (fun w h => h) (fun w h => h) rfl (pk_seq (pk_blk (pk_seq (pk_loop (pk_blk (pk_seq pk_fn)))))) (by kernel_rfl) rfl ?_
 refine a_take (i := 31) rfl wanted_none (y_pick_f rfl rfl) (fun w h => h) (fun w h => h) rfl (pk_seq (pk_blk (pk_seq (pk_loop (pk_blk (pk_seq pk_fn)))))) (by kernel_rfl) rfl ?_
 refine a_done (by kernel_rfl) ?_
 refine e_seq ?_
 refine w_cond_f rfl ?_
 refine w_skip ?_
 refine e_blk ?_
 refine e_seq ?_
 refine w_region ?_
 refine o_y (y_move rfl) rfl rfl ?_
 refine o_y (y_addi rfl rfl (by omega) (by omega)) rfl rfl ?_
 refine o_y (y_assign rfl) rfl rfl ?_
 refine wl_nil ?_
 refine e_back (k + 1) ?_ ?_ ⟨rfl, trivial⟩ (by repeat (first | exact trivial | refine ⟨rfl, ?_⟩)) (fun w h => h)
 exact ⟨by omega, all_succ hI.2 ⟨by omega, by omega, fun _ => by omega⟩⟩
 omega
 refine a_take (i := 17) rfl (wanted_yes rfl rfl) (y_move rfl) (fun w h => h) (fun w h => h) rfl (pk_seq (pk_blk (pk_seq (pk_loop (pk_blk (pk_seq pk_fn)))))) (by kernel_rfl) rfl ?_
 refine a_skip (i := 18) rfl (wanted_no rfl rfl rfl) (fun w h => h) rfl (pk_seq (pk_blk (pk_seq (pk_loop (pk_blk (pk_seq pk_fn)))))) (by kernel_rfl) rfl ?_
 refine a_skip (i := 19) rfl (wanted_no rfl rfl rfl) (fun w h => h) rfl (pk_seq (pk_blk (pk_seq (pk_loop (pk_blk (pk_seq pk_fn)))))) (by kernel_rfl) rfl ?_
 refine a_skip (i := 20) rfl (wanted_no rfl rfl rfl) (fun w h => h) rfl (pk_seq (pk_blk (pk_seq (pk_loop (pk_blk (pk_seq pk_fn)))))) (by kernel_rfl) rfl ?_
 refine a_skip (i := 21) rfl (wanted_no rfl rfl rfl) (fun w h => h) rfl (pk_seq (pk_blk (pk_seq (pk_loop (pk_blk (pk_seq pk_fn)))))) (by kernel_rfl) rfl ?_
 refine a_skip (i := 22) rfl (wanted_no rfl rfl rfl) (fun w h => h) rfl (pk_seq (pk_blk (pk_seq (pk_loop (pk_blk (pk_seq pk_fn)))))) (by kernel_rfl) rfl ?_
 refine a_skip (i := 23) rfl (wanted_no rfl rfl rfl) (fun w h => h) rfl (pk_seq (pk_blk (pk_seq (pk_loop (pk_blk (pk_seq pk_fn)))))) (by kernel_rfl) rfl ?_
 refine a_skip (i := 24) rfl (wanted_no rfl rfl rfl) (fun w h => h) rfl (pk_seq (pk_blk (pk_seq (pk_loop (pk_blk (pk_seq pk_fn)))))) (by kernel_rfl) rfl ?_
 refine a_skip (i := 25) rfl (wanted_no rfl rfl rfl) (fun w h => h) rfl (pk_seq (pk_blk (pk_seq (pk_loop (pk_blk (pk_seq pk_fn)))))) (by kernel_rfl) rfl ?_
 refine a_skip (i := 26) rfl (wanted_no rfl rfl rfl) (fun w h => h) rfl (pk_seq (pk_blk (pk_seq (pk_loop (pk_blk (pk_seq pk_fn)))))) (by kernel_rfl) rfl ?_
 refine a_skip (i := 27) rfl (wanted_no rfl rfl rfl) (fun w h => h) rfl (pk_seq (pk_blk (pk_seq (pk_loop (pk_blk (pk_seq pk_fn)))))) (by kernel_rfl) rfl ?_
 refine a_skip (i := 28) rfl (wanted_no rfl rfl rfl) (fun w h => h) rfl (pk_seq (pk_blk (pk_seq (pk_loop (pk_blk (pk_seq pk_fn)))))) (by kernel_rfl) rfl ?_
 refine a_skip (i := 29) rfl (wanted_no rfl rfl rfl) (fun w h => h) rfl (pk_seq (pk_blk (pk_seq (pk_loop (pk_blk (pk_seq pk_fn)))))) (by kernel_rfl) rfl ?_
 refine a_take (i := 30) rfl (wanted_yes rfl rfl) (y_pick_f rfl rfl) (fun w h => h) (fun w h => h) rfl (pk_seq (pk_blk (pk_seq (pk_loop (pk_blk (pk_seq pk_fn)))))) (by kernel_rfl) rfl ?_
 refine a_take (i := 31) rfl wanted_none (y_pick_f rfl rfl) (fun w h => h) (fun w h => h) rfl (pk_seq (pk_blk (pk_seq (pk_loop (pk_blk (pk_seq pk_fn)))))) (by kernel_rfl) rfl ?_
 refine a_done (by kernel_rfl) ?_
 refine e_seq ?_
 refine w_cond_f rfl ?_
 refine w_skip ?_
 refine e_blk ?_
 refine e_seq ?_
 refine w_region ?_
 refine o_y (y_move rfl) rfl rfl ?_
 refine o_y (y_addi rfl rfl (by omega) (by omega)) rfl rfl ?_
 refine o_y (y_assign rfl) rfl rfl ?_
 refine wl_nil ?_
 refine e_back (k + 1) ?_ ?_ ⟨rfl, trivial⟩ (by repeat (first | exact trivial | refine ⟨rfl, ?_⟩)) (fun w h => h)
 exact ⟨by omega, all_succ hI.2 ⟨by omega, by omega, fun _ => by omega⟩⟩
 omega
 refine wl_nil ?_
 refine e_seq ?_
 refine w_cond_f rfl ?_
 refine w_exit ?_
 refine e_seq_exit ?_
 refine e_loop_exit ?_
 refine e_blk_hit ?_
 refine e_seq ?_
 refine w_seq ?_
 refine w_region ?_
 refine o_y (y_assign rfl) rfl rfl ?_
 refine wl_nil ?_
 refine e_seq ?_
 refine w_seq ?_
 refine w_seq ?_
 refine w_region ?_
 refine o_y (y_field fa_47_1 rfl) rfl rfl ?_
 refine o_y (y_loadr 0 ty_3 rfl rfl rfl) rfl rfl ?_
 refine wl_nil ?_
 refine e_seq ?_
 refine w_block ?_
 refine w_seq ?_
 refine w_region ?_
 refine o_y (y_eql rfl rfl) rfl rfl ?_
 refine wl_splitp (t := 68) rfl (fun h13_0 => ?_) (fun h13_0 => ?_)
 refine o_y (y_assign rfl) rfl rfl ?_
 refine wl_nil ?_
 refine e_seq ?_
 refine w_cond_t rfl ?_
 refine w_region ?_
 refine o_y (y_field fa_47_2 rfl) rfl rfl ?_
 refine o_y (y_loadr 0 ty_9 rfl rfl rfl) rfl rfl ?_
 refine o_callp rfl ent_121 (c_ref01_Check _) rfl ?_
 refine o_y (y_eql rfl rfl) rfl rfl ?_
 refine wl_splitp (t := 72) rfl (fun h14_3 => ?_) (fun h14_3 => ?_)
 refine o_y (y_move rfl) rfl rfl ?_
 refine wl_gyes rfl rfl ?_
 refine o_y (y_field fa_47_3 rfl) rfl rfl ?_
 refine wl_gyes rfl rfl ?_
 refine o_y (y_loadr 0 ty_43 rfl rfl rfl) rfl rfl ?_
 refine wl_gyes rfl rfl ?_
 refine o_y (y_lenl Tryz.underlying43 rfl) rfl rfl ?_
 refine wl_gyes rfl rfl ?_
 refine o_y (y_geq rfl rfl) rfl rfl ?_
 refine wl_splitp (t := 77) rfl (fun h14_8 => ?_) (fun h14_8 => ?_)
 refine o_y (y_pick_t rfl rfl) rfl rfl ?_
 refine o_y (y_move rfl) rfl rfl ?_
 refine wl_gyes rfl rfl ?_
 refine o_y (y_field fa_47_3 rfl) rfl rfl ?_
 refine wl_gyes rfl rfl ?_
 refine o_y (y_loadr 0 ty_43 rfl rfl rfl) rfl rfl ?_
 refine wl_gyes rfl rfl ?_
 refine o_y (y_lenl Tryz.underlying43 rfl) rfl rfl ?_
 refine wl_gyes rfl rfl ?_
 refine o_y (y_leq rfl rfl) rfl rfl ?_
 refine wl_splitp (t := 83) rfl (fun h14_14 => ?_) (fun h14_14 => ?_)
 refine o_y (y_pick_t rfl rfl) rfl rfl ?_
 refine o_y (y_move rfl) rfl rfl ?_
 refine wl_gyes rfl rfl ?_
 refine o_y (y_field fa_47_3 rfl) rfl rfl ?_
 refine wl_gyes rfl rfl ?_
 refine o_y (y_loadr 0 ty_43 rfl rfl rfl) rfl rfl ?_
 refine wl_gyes rfl rfl ?_
 refine o_callq rfl ent_122 rfl (c_ref16_addrs _ _ _ (by omega) hwa) (fun w hw => (rd_cons (rd_S 0 rfl hw) rd_nil)) ?_
 refine wl_splitb (t := 88) rfl (fun h14_19 => ?_) (fun h14_19 => ?_)
 refine o_y (y_pick_t rfl rfl) rfl rfl ?_
 refine o_y (y_move rfl) rfl rfl ?_
 refine wl_gyes rfl rfl ?_
 refine o_y (y_field fa_47_4 rfl) rfl rfl ?_
 refine wl_gyes rfl rfl ?_
 refine o_y (y_loadr 0 ty_36 rfl rfl rfl) rfl rfl ?_
 refine wl_gyes rfl rfl ?_
 refine o_y (y_eqls rfl rfl) rfl rfl ?_
 refine wl_splitp (t := 93) rfl (fun h14_24 => ?_) (fun h14_24 => ?_)
 refine o_y (y_pick_t rfl rfl) rfl rfl ?_
 refine o_y (y_assign rfl) rfl rfl ?_
 refine wl_nil ?_
 refine e_blk ?_
 refine e_seq ?_
 refine w_seq ?_
 refine w_seq ?_
 refine w_region ?_
 refine o_y (y_move rfl) rfl rfl ?_
 refine o_y (y_not rfl) rfl rfl ?_
 refine wl_nil ?_
 refine e_seq ?_
 refine w_cond_f rfl ?_
 refine w_skip ?_
 refine e_seq ?_
 refine w_seq ?_
 refine w_region ?_
 refine o_y (y_assign rfl) rfl rfl ?_
 refine wl_nil ?_
 refine e_seq ?_
 refine w_ret ?_
 refine e_ret (ts := [2]) rfl rfl rfl (fun w hw => ?_)
 have hpo : portsOk e.ports = true := ports_yes (fun i hi => hI.2 i (by omega)) (by omega)
 have hm : mayOk e = true := by
   focus first
     | (exfalso; omega)
     | (simp [mayOk, adsOk_eq, *]
        done)
     | (have r1 : 1 ≤ e.addrs.length := by omega
        have r2 : e.addrs.length ≤ 8 := by omega
        have r3 : ¬ e.addrs = [] := by
          intro h; rw [h] at r1; simp at r1
        simp [mayOk, adsOk_eq, *]
        done)
     | (have r1 : ¬ 1 ≤ e.addrs.length := by omega
        have r3 : e.addrs = [] := List.length_eq_zero_iff.1 (by omega)
        simp [mayOk, adsOk_eq, *]
        done)
     | (have r1 : 1 ≤ e.addrs.length := by omega
        have r2 : ¬ e.addrs.length ≤ 8 := by omega
        simp [mayOk, adsOk_eq, *]
        done)
     | (have q0 : e.addrs = [] := List.length_eq_zero_iff.1 (by omega)
        simp [mayOk, adsOk_eq, *]
        done)
     | (have q0 : ¬ e.addrs = [] := by
          intro h; have h9 := congrArg List.length h; rw [List.length_nil] at h9; omega
        simp [mayOk, adsOk_eq, *]
        done)
     | (have q0 : e.addrs = [] := List.length_eq_zero_iff.1 (by omega)
        have q1 : e.ports = [] := List.length_eq_zero_iff.1 (by omega)
        simp [mayOk, adsOk_eq, *]
        done)
     | (have q0 : e.addrs = [] := List.length_eq_zero_iff.1 (by omega)
        have q1 : ¬ e.ports = [] := by
          intro h; have h9 := congrArg List.length h; rw [List.length_nil] at h9; omega
        simp [mayOk, adsOk_eq, *]
        done)
     | (trace_state; fail)
 exact ⟨(), by rw [ent_good h2_1 h4_2 h4_6 hpo hm]; rfl, hw.base, (hw.weak (List.nil_sublist _) (fun s hs => hs)).toNews⟩
 refine o_y (y_pick_t rfl rfl) rfl rfl ?_
 refine o_y (y_assign rfl) rfl rfl ?_
 refine wl_nil ?_
 refine e_blk ?_
 refine e_seq ?_
 refine w_seq ?_
 refine w_seq ?_
 refine w_region ?_
 refine o_y (y_move rfl) rfl rfl ?_
 refine o_y (y_not rfl) rfl rfl ?_
 refine wl_nil ?_
 refine e_seq ?_
 refine w_cond_t rfl ?_
 refine w_seq ?_
 refine w_region ?_
 refine o_y (y_assign rfl) rfl rfl ?_
 refine wl_nil ?_
 refine e_seq ?_
 refine w_ret ?_
 refine e_seq_ret ?_
 refine e_ret (ts := [2]) rfl rfl rfl (fun w hw => ?_)
 have hpo : portsOk e.ports = true := ports_yes (fun i hi => hI.2 i (by omega)) (by omega)
 have hm : mayOk e = false := by
   focus first
     | (exfalso; omega)
     | (simp [mayOk, adsOk_eq, *]
        done)
     | (have r1 : 1 ≤ e.addrs.length := by omega
        have r2 : e.addrs.length ≤ 8 := by omega
        have r3 : ¬ e.addrs = [] := by
          intro h; rw [h] at r1; simp at r1
        simp [mayOk, adsOk_eq, *]
        done)
     | (have r1 : ¬ 1 ≤ e.addrs.length := by omega
        have r3 : e.addrs = [] := List.length_eq_zero_iff.1 (by omega)
        simp [mayOk, adsOk_eq, *]
        done)
     | (have r1 : 1 ≤ e.addrs.length := by omega
        have r2 : ¬ e.addrs.length ≤ 8 := by omega
        simp [mayOk, adsOk_eq, *]
        done)
     | (have q0 : e.addrs = [] := List.length_eq_zero_iff.1 (by omega)
        simp [mayOk, adsOk_eq, *]
        done)
     | (have q0 : ¬ e.addrs = [] := by
          intro h; have h9 := congrArg List.length h; rw [List.length_nil] at h9; omega
        simp [mayOk, adsOk_eq, *]
        done)
     | (have q0 : e.addrs = [] := List.length_eq_zero_iff.1 (by omega)
        have q1 : e.ports = [] := List.length_eq_zero_iff.1 (by omega)
        simp [mayOk, adsOk_eq, *]
        done)
     | (have q0 : e.addrs = [] := List.length_eq_zero_iff.1 (by omega)
        have q1 : ¬ e.ports = [] := by
          intro h; have h9 := congrArg List.length h; rw [List.length_nil] at h9; omega
        simp [mayOk, adsOk_eq, *]
        done)
     | (trace_state; fail)
 exact ⟨(), by rw [ent_bad h2_1 (.inr (.inr (.inr hm)))]; rfl, hw.base, (hw.weak (List.nil_sublist _) (fun s hs => hs)).toNews⟩
 refine o_y (y_pick_t rfl rfl) rfl rfl ?_
 refine o_y (y_move rfl) rfl rfl ?_
 refine wl_gno rfl rfl rfl rfl ?_
 refine wl_gno rfl rfl rfl rfl ?_
 refine wl_gno rfl rfl rfl rfl ?_
 refine o_y (y_pick_f rfl rfl) rfl rfl ?_
 refine o_y (y_assign rfl) rfl rfl ?_
 refine wl_nil ?_
 refine e_blk ?_
 refine e_seq ?_
 refine w_seq ?_
 refine w_seq ?_
 refine w_region ?_
 refine o_y (y_move rfl) rfl rfl ?_
 refine o_y (y_not rfl) rfl rfl ?_
 refine wl_nil ?_
 refine e_seq ?_
 refine w_cond_t rfl ?_
 refine w_seq ?_
 refine w_region ?_
 refine o_y (y_assign rfl) rfl rfl ?_
 refine wl_nil ?_
 refine e_seq ?_
 refine w_ret ?_
 refine e_seq_ret ?_
 refine e_ret (ts := [2]) rfl rfl rfl (fun w hw => ?_)
 have hpo : portsOk e.ports = true := ports_yes (fun i hi => hI.2 i (by omega)) (by omega)
 have hm : mayOk e = false := by
   focus first
     | (exfalso; omega)
     | (simp [mayOk, adsOk_eq, *]
        done)
     | (have r1 : 1 ≤ e.addrs.length := by omega
        have r2 : e.addrs.length ≤ 8 := by omega
        have r3 : ¬ e.addrs = [] := by
          intro h; rw [h] at r1; simp at r1
        simp [mayOk, adsOk_eq, *]
        done)
     | (have r1 : ¬ 1 ≤ e.addrs.length := by omega
        have r3 : e.addrs = [] := List.length_eq_zero_iff.1 (by omega)
        simp [mayOk, adsOk_eq, *]
        done)
     | (have r1 : 1 ≤ e.addrs.length := by omega
        have r2 : ¬ e.addrs.length ≤ 8 := by omega
        simp [mayOk, adsOk_eq, *]
        done)
     | (have q0 : e.addrs = [] := List.length_eq_zero_iff.1 (by omega)
        simp [mayOk, adsOk_eq, *]
        done)
     | (have q0 : ¬ e.addrs = [] := by
          intro h; have h9 := congrArg List.length h; rw [List.length_nil] at h9; omega
        simp [mayOk, adsOk_eq, *]
        done)
     | (have q0 : e.addrs = [] := List.length_eq_zero_iff.1 (by omega)
        have q1 : e.ports = [] := List.length_eq_zero_iff.1 (by omega)
        simp [mayOk, adsOk_eq, *]
        done)
     | (have q0 : e.addrs = [] := List.length_eq_zero_iff.1 (by omega)
        have q1 : ¬ e.ports = [] := by
          intro h; have h9 := congrArg List.length h; rw [List.length_nil] at h9; omega
        simp [mayOk, adsOk_eq, *]
        done)
     | (trace_state; fail)
 exact ⟨(), by rw [ent_bad h2_1 (.inr (.inr (.inr hm)))]; rfl, hw.base, (hw.weak (List.nil_sublist _) (fun s hs => hs)).toNews⟩
 refine o_y (y_pick_t rfl rfl) rfl rfl ?_
 refine o_y (y_move rfl) rfl rfl ?_
 refine wl_gno rfl rfl rfl rfl ?_
 refine wl_gno rfl rfl rfl rfl ?_
 refine wl_gno rfl rfl rfl rfl ?_
 refine o_y (y_pick_f rfl rfl) rfl rfl ?_
 refine o_y (y_move rfl) rfl rfl ?_
 refine wl_gno rfl rfl rfl rfl ?_
 refine wl_gno rfl rfl rfl rfl ?_
 refine wl_gno rfl rfl rfl rfl ?_
 refine o_y (y_pick_f rfl rfl) rfl rfl ?_
 refine o_y (y_assign rfl) rfl rfl ?_
 refine wl_nil ?_
 refine e_blk ?_
 refine e_seq ?_
 refine w_seq ?_
 refine w_seq ?_
 refine w_region ?_
 refine o_y (y_move rfl) rfl rfl ?_
 refine o_y (y_not rfl) rfl rfl ?_
 refine wl_nil ?_
 refine e_seq ?_
 refine w_cond_t rfl ?_
 refine w_seq ?_
 refine w_region ?_
 refine o_y (y_assign rfl) rfl rfl ?_
 refine wl_nil ?_
 refine e_seq ?_
 refine w_ret ?_
 refine e_seq_ret ?_
 refine e_ret (ts := [2]) rfl rfl rfl (fun w hw => ?_)
 have hpo : portsOk e.ports = true := ports_yes (fun i hi => hI.2 i (by omega)) (by omega)
 have hm : mayOk e = false := by
   focus first
     | (exfalso; omega)
     | (simp [mayOk, adsOk_eq, *]
        done)
     | (have r1 : 1 ≤ e.addrs.length := by omega
        have r2 : e.addrs.length ≤ 8 := by omega
        have r3 : ¬ e.addrs = [] := by
          intro h; rw [h] at r1; simp at r1
        simp [mayOk, adsOk_eq, *]
        done)
     | (have r1 : ¬ 1 ≤ e.addrs.length := by omega
        have r3 : e.addrs = [] := List.length_eq_zero_iff.1 (by omega)
        simp [mayOk, adsOk_eq, *]
        done)
     | (have r1 : 1 ≤ e.addrs.length := by omega
        have r2 : ¬ e.addrs.length ≤ 8 := by omega
        simp [mayOk, adsOk_eq, *]
        done)
     | (have q0 : e.addrs = [] := List.length_eq_zero_iff.1 (by omega)
        simp [mayOk, adsOk_eq, *]
        done)
     | (have q0 : ¬ e.addrs = [] := by
          intro h; have h9 := congrArg List.length h; rw [List.length_nil] at h9; omega
        simp [mayOk, adsOk_eq, *]
        done)
     | (have q0 : e.addrs = [] := List.length_eq_zero_iff.1 (by omega)
        have q1 : e.ports = [] := List.length_eq_zero_iff.1 (by omega)
        simp [mayOk, adsOk_eq, *]
        done)
     | (have q0 : e.addrs = [] := List.length_eq_zero_iff.1 (by omega)
        have q1 : ¬ e.ports = [] := by
          intro h; have h9 := congrArg List.length h; rw [List.length_nil] at h9; omega
        simp [mayOk, adsOk_eq, *]
        done)
     | (trace_state; fail)
 exact ⟨(), by rw [ent_bad h2_1 (.inr (.inr (.inr hm)))]; rfl, hw.base, (hw.weak (List.nil_sublist _) (fun s hs => hs)).toNews⟩
 refine o_y (y_pick_t rfl rfl) rfl rfl ?_
 refine o_y (y_move rfl) rfl rfl ?_
 refine wl_gno rfl rfl rfl rfl ?_
 refine wl_gno rfl rfl rfl rfl ?_
 refine wl_gno rfl rfl rfl rfl ?_
 refine wl_gno rfl rfl rfl rfl ?_
 refine o_y (y_pick_f rfl rfl) rfl rfl ?_
 refine o_y (y_move rfl) rfl rfl ?_
 refine wl_gno rfl rfl rfl rfl ?_
 refine wl_gno rfl rfl rfl rfl ?_
 refine wl_gno rfl rfl rfl rfl ?_
 refine o_y (y_pick_f rfl rfl) rfl rfl ?_
 refine o_y (y_move rfl) rfl rfl ?_
 refine wl_gno rfl rfl rfl rfl ?_
 refine wl_gno rfl rfl rfl rfl ?_
 refine wl_gno rfl rfl rfl rfl ?_
 refine o_y (y_pick_f rfl rfl) rfl rfl ?_
 refine o_y (y_assign rfl) rfl rfl ?_
 refine wl_nil ?_
 refine e_blk ?_
 refine e_seq ?_
 refine w_seq ?_
 refine w_seq ?_
 refine w_region ?_
 refine o_y (y_move rfl) rfl rfl ?_
 refine o_y (y_not rfl) rfl rfl ?_
 refine wl_nil ?_
 refine e_seq ?_
 refine w_cond_t rfl ?_
 refine w_seq ?_
 refine w_region ?_
 refine o_y (y_assign rfl) rfl rfl ?_
 refine wl_nil ?_
 refine e_seq ?_
 refine w_ret ?_
 refine e_seq_ret ?_
 refine e_ret (ts := [2]) rfl rfl rfl (fun w hw => ?_)
 have hpo : portsOk e.ports = true := ports_yes (fun i hi => hI.2 i (by omega)) (by omega)
 have hm : mayOk e = false := by
   focus first
     | (exfalso; omega)
     | (simp [mayOk, adsOk_eq, *]
        done)
     | (have r1 : 1 ≤ e.addrs.length := by omega
        have r2 : e.addrs.length ≤ 8 := by omega
        have r3 : ¬ e.addrs = [] := by
          intro h; rw [h] at r1; simp at r1
        simp [mayOk, adsOk_eq, *]
        done)
     | (have r1 : ¬ 1 ≤ e.addrs.length := by omega
        have r3 : e.addrs = [] := List.length_eq_zero_iff.1 (by omega)
        simp [mayOk, adsOk_eq, *]
        done)
     | (have r1 : 1 ≤ e.addrs.length := by omega
        have r2 : ¬ e.addrs.length ≤ 8 := by omega
        simp [mayOk, adsOk_eq, *]
        done)
     | (have q0 : e.addrs = [] := List.length_eq_zero_iff.1 (by omega)
        simp [mayOk, adsOk_eq, *]
        done)
     | (have q0 : ¬ e.addrs = [] := by
          intro h; have h9 := congrArg List.length h; rw [List.length_nil] at h9; omega
        simp [mayOk, adsOk_eq, *]
        done)
     | (have q0 : e.addrs = [] := List.length_eq_zero_iff.1 (by omega)
        have q1 : e.ports = [] := List.length_eq_zero_iff.1 (by omega)
        simp [mayOk, adsOk_eq, *]
        done)
     | (have q0 : e.addrs = [] := List.length_eq_zero_iff.1 (by omega)
        have q1 : ¬ e.ports = [] := by
          intro h; have h9 := congrArg List.length h; rw [List.length_nil] at h9; omega
        simp [mayOk, adsOk_eq, *]
        done)
     | (trace_state; fail)
 exact ⟨(), by rw [ent_bad h2_1 (.inr (.inr (.inr hm)))]; rfl, hw.base, (hw.weak (List.nil_sublist _) (fun s hs => hs)).toNews⟩
 refine o_y (y_move rfl) rfl rfl ?_
 refine wl_gno rfl rfl rfl rfl ?_
 refine wl_gno rfl rfl rfl rfl ?_
 refine wl_gno rfl rfl rfl rfl ?_
 refine wl_gno rfl rfl rfl rfl ?_
 refine o_y (y_pick_f rfl rfl) rfl rfl ?_
 refine o_y (y_move rfl) rfl rfl ?_
 refine wl_gno rfl rfl rfl rfl ?_
 refine wl_gno rfl rfl rfl rfl ?_
 refine wl_gno rfl rfl rfl rfl ?_
 refine wl_gno rfl rfl rfl rfl ?_
 refine o_y (y_pick_f rfl rfl) rfl rfl ?_
 refine o_y (y_move rfl) rfl rfl ?_
 refine wl_gno rfl rfl rfl rfl ?_
 refine wl_gno rfl rfl rfl rfl ?_
 refine wl_gno rfl rfl rfl rfl ?_
 refine o_y (y_pick_f rfl rfl) rfl rfl ?_
 refine o_y (y_move rfl) rfl rfl ?_
 refine wl_gno rfl rfl rfl rfl ?_
 refine wl_gno rfl rfl rfl rfl ?_
 refine wl_gno rfl rfl rfl rfl ?_
 refine o_y (y_pick_f rfl rfl) rfl rfl ?_
 refine o_y (y_assign rfl) rfl rfl ?_
 refine wl_nil ?_
 refine e_blk ?_
 refine e_seq ?_
 refine w_seq ?_
 refine w_seq ?_
 refine w_region ?_
 refine o_y (y_move rfl) rfl rfl ?_
 refine o_y (y_not rfl) rfl rfl ?_
 refine wl_nil ?_
 refine e_seq ?_
 refine w_cond_t rfl ?_
 refine w_seq ?_
 refine w_region ?_
 refine o_y (y_assign rfl) rfl rfl ?_
 refine wl_nil ?_
 refine e_seq ?_
 refine w_ret ?_
 refine e_seq_ret ?_
 refine e_ret (ts := [2]) rfl rfl rfl (fun w hw => ?_)
 have hpo : portsOk e.ports = true := ports_yes (fun i hi => hI.2 i (by omega)) (by omega)
 have hm : mayOk e = false := by
   focus first
     | (exfalso; omega)
     | (simp [mayOk, adsOk_eq, *]
        done)
     | (have r1 : 1 ≤ e.addrs.length := by omega
        have r2 : e.addrs.length ≤ 8 := by omega
        have r3 : ¬ e.addrs = [] := by
          intro h; rw [h] at r1; simp at r1
        simp [mayOk, adsOk_eq, *]
        done)
     | (have r1 : ¬ 1 ≤ e.addrs.length := by omega
        have r3 : e.addrs = [] := List.length_eq_zero_iff.1 (by omega)
        simp [mayOk, adsOk_eq, *]
        done)
     | (have r1 : 1 ≤ e.addrs.length := by omega
        have r2 : ¬ e.addrs.length ≤ 8 := by omega
        simp [mayOk, adsOk_eq, *]
        done)
     | (have q0 : e.addrs = [] := List.length_eq_zero_iff.1 (by omega)
        simp [mayOk, adsOk_eq, *]
        done)
     | (have q0 : ¬ e.addrs = [] := by
          intro h; have h9 := congrArg List.length h; rw [List.length_nil] at h9; omega
        simp [mayOk, adsOk_eq, *]
        done)
     | (have q0 : e.addrs = [] := List.length_eq_zero_iff.1 (by omega)
        have q1 : e.ports = [] := List.length_eq_zero_iff.1 (by omega)
        simp [mayOk, adsOk_eq, *]
        done)
     | (have q0 : e.addrs = [] := List.length_eq_zero_iff.1 (by omega)
        have q1 : ¬ e.ports = [] := by
          intro h; have h9 := congrArg List.length h; rw [List.length_nil] at h9; omega
        simp [mayOk, adsOk_eq, *]
        done)
     | (trace_state; fail)
 exact ⟨(), by rw [ent_bad h2_1 (.inr (.inr (.inr hm)))]; rfl, hw.base, (hw.weak (List.nil_sublist _) (fun s hs => hs)).toNews⟩
 refine o_y (y_assign rfl) rfl rfl ?_
 refine wl_nil ?_
 refine e_seq ?_
 refine w_cond_f rfl ?_
 refine w_seq ?_
 refine w_region ?_
 refine o_y (y_eql rfl rfl) rfl rfl ?_
 refine wl_splitp (t := 96) rfl (fun h15_0 => ?_) (fun h15_0 => ?_)
 refine o_y (y_assign rfl) rfl rfl ?_
 refine wl_nil ?_
 refine e_seq ?_
 refine w_cond_t rfl ?_
 refine w_region ?_
 refine o_y (y_field fa_47_2 rfl) rfl rfl ?_
 refine o_y (y_loadr 0 ty_9 rfl rfl rfl) rfl rfl ?_
 refine o_callp rfl ent_121 (c_ref01_Check _) rfl ?_
 refine o_y (y_eql rfl rfl) rfl rfl ?_
 refine wl_splitp (t := 100) rfl (fun h16_3 => ?_) (fun h16_3 => ?_)
 refine o_y (y_move rfl) rfl rfl ?_
 refine wl_gyes rfl rfl ?_
 refine o_y (y_field fa_47_3 rfl) rfl rfl ?_
 refine wl_gyes rfl rfl ?_
 refine o_y (y_loadr 0 ty_43 rfl rfl rfl) rfl rfl ?_
 refine wl_gyes rfl rfl ?_
 refine o_y (y_lenl Tryz.underlying43 rfl) rfl rfl ?_
 refine wl_gyes rfl rfl ?_
 refine o_y (y_eql rfl rfl) rfl rfl ?_
 refine wl_splitp (t := 105) rfl (fun h16_8 => ?_) (fun h16_8 => ?_)
 refine o_y (y_pick_t rfl rfl) rfl rfl ?_
 refine o_y (y_move rfl) rfl rfl ?_
 refine wl_gyes rfl rfl ?_
 refine o_y (y_field fa_47_4 rfl) rfl rfl ?_
 refine wl_gyes rfl rfl ?_
 refine o_y (y_loadr 0 ty_36 rfl rfl rfl) rfl rfl ?_
 refine wl_gyes rfl rfl ?_
 refine o_y (y_eqls rfl rfl) rfl rfl ?_
 refine wl_splitp (t := 110) rfl (fun h16_13 => ?_) (fun h16_13 => ?_)
 refine o_y (y_pick_t rfl rfl) rfl rfl ?_
 refine o_y (y_assign rfl) rfl rfl ?_
 refine wl_nil ?_
 refine e_blk ?_
 refine e_seq ?_
 refine w_seq ?_
 refine w_seq ?_
 refine w_region ?_
 refine o_y (y_move rfl) rfl rfl ?_
 refine o_y (y_not rfl) rfl rfl ?_
 refine wl_nil ?_
 refine e_seq ?_
 refine w_cond_f rfl ?_
 refine w_skip ?_
 refine e_seq ?_
 refine w_seq ?_
 refine w_region ?_
 refine o_y (y_assign rfl) rfl rfl ?_
 refine wl_nil ?_
 refine e_seq ?_
 refine w_ret ?_
 refine e_ret (ts := [2]) rfl rfl rfl (fun w hw => ?_)
 have hpo : portsOk e.ports = true := ports_yes (fun i hi => hI.2 i (by omega)) (by omega)
 have hm : mayOk e = true := by
   focus first
     | (exfalso; omega)
     | (simp [mayOk, adsOk_eq, *]
        done)
     | (have r1 : 1 ≤ e.addrs.length := by omega
        have r2 : e.addrs.length ≤ 8 := by omega
        have r3 : ¬ e.addrs = [] := by
          intro h; rw [h] at r1; simp at r1
        simp [mayOk, adsOk_eq, *]
        done)
     | (have r1 : ¬ 1 ≤ e.addrs.length := by omega
        have r3 : e.addrs = [] := List.length_eq_zero_iff.1 (by omega)
        simp [mayOk, adsOk_eq, *]
        done)
     | (have r1 : 1 ≤ e.addrs.length := by omega
        have r2 : ¬ e.addrs.length ≤ 8 := by omega
        simp [mayOk, adsOk_eq, *]
        done)
     | (have q0 : e.addrs = [] := List.length_eq_zero_iff.1 (by omega)
        simp [mayOk, adsOk_eq, *]
        done)
     | (have q0 : ¬ e.addrs = [] := by
          intro h; have h9 := congrArg List.length h; rw [List.length_nil] at h9; omega
        simp [mayOk, adsOk_eq, *]
        done)
     | (have q0 : e.addrs = [] := List.length_eq_zero_iff.1 (by omega)
        have q1 : e.ports = [] := List.length_eq_zero_iff.1 (by omega)
        simp [mayOk, adsOk_eq, *]
        done)
     | (have q0 : e.addrs = [] := List.length_eq_zero_iff.1 (by omega)
        have q1 : ¬ e.ports = [] := by
          intro h; have h9 := congrArg List.length h; rw [List.length_nil] at h9; omega
        simp [mayOk, adsOk_eq, *]
        done)
     | (trace_state; fail)
 exact ⟨(), by rw [ent_good h2_1 h4_2 h4_6 hpo hm]; rfl, hw.base, (hw.weak (List.nil_sublist _) (fun s hs => hs)).toNews⟩
 refine o_y (y_pick_t rfl rfl) rfl rfl ?_
 refine o_y (y_assign rfl) rfl rfl ?_
 refine wl_nil ?_
 refine e_blk ?_
 refine e_seq ?_
 refine w_seq ?_
 refine w_seq ?_
 refine w_region ?_
 refine o_y (y_move rfl) rfl rfl ?_
 refine o_y (y_not rfl) rfl rfl ?_
 refine wl_nil ?_
 refine e_seq ?_
 refine w_cond_t rfl ?_
 refine w_seq ?_
 refine w_region ?_
 refine o_y (y_assign rfl) rfl rfl ?_
 refine wl_nil ?_
 refine e_seq ?_
 refine w_ret ?_
 refine e_seq_ret ?_
 refine e_ret (ts := [2]) rfl rfl rfl (fun w hw => ?_)
 have hpo : portsOk e.ports = true := ports_yes (fun i hi => hI.2 i (by omega)) (by omega)
 have hm : mayOk e = false := by
   focus first
     | (exfalso; omega)
     | (simp [mayOk, adsOk_eq, *]
        done)
     | (have r1 : 1 ≤ e.addrs.length := by omega
        have r2 : e.addrs.length ≤ 8 := by omega
        have r3 : ¬ e.addrs = [] := by
          intro h; rw [h] at r1; simp at r1
        simp [mayOk, adsOk_eq, *]
        done)
     | (have r1 : ¬ 1 ≤ e.addrs.length := by omega
        have r3 : e.addrs = [] := List.length_eq_zero_iff.1 (by omega)
        simp [mayOk, adsOk_eq, *]
        done)
     | (have r1 : 1 ≤ e.addrs.length := by omega
        have r2 : ¬ e.addrs.length ≤ 8 := by omega
        simp [mayOk, adsOk_eq, *]
        done)
     | (have q0 : e.addrs = [] := List.length_eq_zero_iff.1 (by omega)
        simp [mayOk, adsOk_eq, *]
        done)
     | (have q0 : ¬ e.addrs = [] := by
          intro h; have h9 := congrArg List.length h; rw [List.length_nil] at h9; omega
        simp [mayOk, adsOk_eq, *]
        done)
     | (have q0 : e.addrs = [] := List.length_eq_zero_iff.1 (by omega)
        have q1 : e.ports = [] := List.length_eq_zero_iff.1 (by omega)
        simp [mayOk, adsOk_eq, *]
        done)
     | (have q0 : e.addrs = [] := List.length_eq_zero_iff.1 (by omega)
        have q1 : ¬ e.ports = [] := by
          intro h; have h9 := congrArg List.length h; rw [List.length_nil] at h9; omega
        simp [mayOk, adsOk_eq, *]
        done)
     | (trace_state; fail)
 exact ⟨(), by rw [ent_bad h2_1 (.inr (.inr (.inr hm)))]; rfl, hw.base, (hw.weak (List.nil_sublist _) (fun s hs => hs)).toNews⟩
 refine o_y (y_pick_t rfl rfl) rfl rfl ?_
 refine o_y (y_move rfl) rfl rfl ?_
 refine wl_gno rfl rfl rfl rfl ?_
 refine wl_gno rfl rfl rfl rfl ?_
 refine wl_gno rfl rfl rfl rfl ?_
 refine o_y (y_pick_f rfl rfl) rfl rfl ?_
 refine o_y (y_assign rfl) rfl rfl ?_
 refine wl_nil ?_
 refine e_blk ?_
 refine e_seq ?_
 refine w_seq ?_
 refine w_seq ?_
 refine w_region ?_
 refine o_y (y_move rfl) rfl rfl ?_
 refine o_y (y_not rfl) rfl rfl ?_
 refine wl_nil ?_
 refine e_seq ?_
 refine w_cond_t rfl ?_
 refine w_seq ?_
 refine w_region ?_
 refine o_y (y_assign rfl) rfl rfl ?_
 refine wl_nil ?_
 refine e_seq ?_
 refine w_ret ?_
 refine e_seq_ret ?_
 refine e_ret (ts := [2]) rfl rfl rfl (fun w hw => ?_)
 have hpo : portsOk e.ports = true := ports_yes (fun i hi => hI.2 i (by omega)) (by omega)
 have hm : mayOk e = false := by
   focus first
     | (exfalso; omega)
     | (simp [mayOk, adsOk_eq, *]
        done)
     | (have r1 : 1 ≤ e.addrs.length := by omega
        have r2 : e.addrs.length ≤ 8 := by omega
        have r3 : ¬ e.addrs = [] := by
          intro h; rw [h] at r1; simp at r1
        simp [mayOk, adsOk_eq, *]
        done)
     | (have r1 : ¬ 1 ≤ e.addrs.length := by omega
        have r3 : e.addrs = [] := List.length_eq_zero_iff.1 (by omega)
        simp [mayOk, adsOk_eq, *]
        done)
     | (have r1 : 1 ≤ e.addrs.length := by omega
        have r2 : ¬ e.addrs.length ≤ 8 := by omega
        simp [mayOk, adsOk_eq, *]
        done)
     | (have q0 : e.addrs = [] := List.length_eq_zero_iff.1 (by omega)
        simp [mayOk, adsOk_eq, *]
        done)
     | (have q0 : ¬ e.addrs = [] := by
          intro h; have h9 := congrArg List.length h; rw [List.length_nil] at h9; omega
        simp [mayOk, adsOk_eq, *]
        done)
     | (have q0 : e.addrs = [] := List.length_eq_zero_iff.1 (by omega)
        have q1 : e.ports = [] := List.length_eq_zero_iff.1 (by omega)
        simp [mayOk, adsOk_eq, *]
        done)
     | (have q0 : e.addrs = [] := List.length_eq_zero_iff.1 (by omega)
        have q1 : ¬ e.ports = [] := by
          intro h; have h9 := congrArg List.length h; rw [List.length_nil] at h9; omega
        simp [mayOk, adsOk_eq, *]
        done)
     | (trace_state; fail)
 exact ⟨(), by rw [ent_bad h2_1 (.inr (.inr (.inr hm)))]; rfl, hw.base, (hw.weak (List.nil_sublist _) (fun s hs => hs)).toNews⟩
 refine o_y (y_move rfl) rfl rfl ?_
 refine wl_gno rfl rfl rfl rfl ?_
 refine wl_gno rfl rfl rfl rfl ?_
 refine wl_gno rfl rfl rfl rfl ?_
 refine wl_gno rfl rfl rfl rfl ?_
 refine o_y (y_pick_f rfl rfl) rfl rfl ?_
 refine o_y (y_move rfl) rfl rfl ?_
 refine wl_gno rfl rfl rfl rfl ?_
 refine wl_gno rfl rfl rfl rfl ?_
 refine wl_gno rfl rfl rfl rfl ?_
 refine o_y (y_pick_f rfl rfl) rfl rfl ?_
 refine o_y (y_assign rfl) rfl rfl ?_
 refine wl_nil ?_
 refine e_blk ?_
 refine e_seq ?_
 refine w_seq ?_
 refine w_seq ?_
 refine w_region ?_
 refine o_y (y_move rfl) rfl rfl ?_
 refine o_y (y_not rfl) rfl rfl ?_
 refine wl_nil ?_
 refine e_seq ?_
 refine w_cond_t rfl ?_
 refine w_seq ?_
 refine w_region ?_
 refine o_y (y_assign rfl) rfl rfl ?_
 refine wl_nil ?_
 refine e_seq ?_
 refine w_ret ?_
 refine e_seq_ret ?_
 refine e_ret (ts := [2]) rfl rfl rfl (fun w hw => ?_)
 have hpo : portsOk e.ports = true := ports_yes (fun i hi => hI.2 i (by omega)) (by omega)
 have hm : mayOk e = false := by
   focus first
     | (exfalso; omega)
     | (simp [mayOk, adsOk_eq, *]
        done)
     | (have r1 : 1 ≤ e.addrs.length := by omega
        have r2 : e.addrs.length ≤ 8 := by omega
        have r3 : ¬ e.addrs = [] := by
          intro h; rw [h] at r1; simp at r1
        simp [mayOk, adsOk_eq, *]
        done)
     | (have r1 : ¬ 1 ≤ e.addrs.length := by omega
        have r3 : e.addrs = [] := List.length_eq_zero_iff.1 (by omega)
        simp [mayOk, adsOk_eq, *]
        done)
     | (have r1 : 1 ≤ e.addrs.length := by omega
        have r2 : ¬ e.addrs.length ≤ 8 := by omega
        simp [mayOk, adsOk_eq, *]
        done)
     | (have q0 : e.addrs = [] := List.length_eq_zero_iff.1 (by omega)
        simp [mayOk, adsOk_eq, *]
        done)
     | (have q0 : ¬ e.addrs = [] := by
          intro h; have h9 := congrArg List.length h; rw [List.length_nil] at h9; omega
        simp [mayOk, adsOk_eq, *]
        done)
     | (have q0 : e.addrs = [] := List.length_eq_zero_iff.1 (by omega)
        have q1 : e.ports = [] := List.length_eq_zero_iff.1 (by omega)
        simp [mayOk, adsOk_eq, *]
        done)
     | (have q0 : e.addrs = [] := List.length_eq_zero_iff.1 (by omega)
        have q1 : ¬ e.ports = [] := by
          intro h; have h9 := congrArg List.length h; rw [List.length_nil] at h9; omega
        simp [mayOk, adsOk_eq, *]
        done)
     | (trace_state; fail)
 exact ⟨(), by rw [ent_bad h2_1 (.inr (.inr (.inr hm)))]; rfl, hw.base, (hw.weak (List.nil_sublist _) (fun s hs => hs)).toNews⟩
 refine o_y (y_assign rfl) rfl rfl ?_
 refine wl_nil ?_
 refine e_seq ?_
 refine w_cond_f rfl ?_
 refine w_seq ?_
 refine w_region ?_
 refine o_y (y_eql rfl rfl) rfl rfl ?_
 refine wl_splitp (t := 113) rfl (fun h17_0 => ?_) (fun h17_0 => ?_)
 refine o_y (y_assign rfl) rfl rfl ?_
 refine wl_nil ?_
 refine e_seq ?_
 refine w_cond_t rfl ?_
 refine w_region ?_
 refine o_y (y_field fa_47_2 rfl) rfl rfl ?_
 refine o_y (y_loadr 0 ty_9 rfl rfl rfl) rfl rfl ?_
 refine o_y (y_eqls rfl rfl) rfl rfl ?_
 refine wl_splitp (t := 116) rfl (fun h18_2 => ?_) (fun h18_2 => ?_)
 refine o_y (y_move rfl) rfl rfl ?_
 refine wl_gyes rfl rfl ?_
 refine o_y (y_field fa_47_3 rfl) rfl rfl ?_
 refine wl_gyes rfl rfl ?_
 refine o_y (y_loadr 0 ty_43 rfl rfl rfl) rfl rfl ?_
 refine wl_gyes rfl rfl ?_
 refine o_y (y_lenl Tryz.underlying43 rfl) rfl rfl ?_
 refine wl_gyes rfl rfl ?_
 refine o_y (y_eql rfl rfl) rfl rfl ?_
 refine wl_splitp (t := 121) rfl (fun h18_7 => ?_) (fun h18_7 => ?_)
 refine o_y (y_pick_t rfl rfl) rfl rfl ?_
 refine o_y (y_move rfl) rfl rfl ?_
 refine wl_gyes rfl rfl ?_
 refine o_y (y_field fa_47_4 rfl) rfl rfl ?_
 refine wl_gyes rfl rfl ?_
 refine o_y (y_loadr 0 ty_36 rfl rfl rfl) rfl rfl ?_
 refine wl_gyes rfl rfl ?_
 refine o_callp rfl ent_83 (c_ref02_Check _) rfl ?_
 refine wl_gyes rfl rfl ?_
 refine o_y (y_eql rfl rfl) rfl rfl ?_
 refine wl_splitp (t := 127) rfl (fun h18_13 => ?_) (fun h18_13 => ?_)
 refine o_y (y_pick_t rfl rfl) rfl rfl ?_
 refine o_y (y_move rfl) rfl rfl ?_
 refine wl_gyes rfl rfl ?_
 refine o_y (y_field fa_47_4 rfl) rfl rfl ?_
 refine wl_gyes rfl rfl ?_
 refine o_y (y_loadr 0 ty_36 rfl rfl rfl) rfl rfl ?_
 refine wl_gyes rfl rfl ?_
 refine o_y (y_neqs rfl rfl) rfl rfl ?_
 refine wl_splitp (t := 132) rfl (fun h18_18 => ?_) (fun h18_18 => ?_)
 refine o_y (y_pick_t rfl rfl) rfl rfl ?_
 refine o_y (y_move rfl) rfl rfl ?_
 refine wl_gyes rfl rfl ?_
 refine o_y (y_field fa_47_4 rfl) rfl rfl ?_
 refine wl_gyes rfl rfl ?_
 refine o_y (y_loadr 0 ty_36 rfl rfl rfl) rfl rfl ?_
 refine wl_gyes rfl rfl ?_
 refine o_callp rfl ent_123 (c_ref02_Wild _) rfl ?_
 refine wl_splitb (t := 137) rfl (fun h18_23 => ?_) (fun h18_23 => ?_)
 refine wl_gyes rfl rfl ?_
 refine o_y (y_not rfl) rfl rfl ?_
 refine o_y (y_pick_t rfl rfl) rfl rfl ?_
 refine o_y (y_move rfl) rfl rfl ?_
 refine wl_gno rfl rfl rfl rfl ?_
 refine wl_gno rfl rfl rfl rfl ?_
 refine wl_gno rfl rfl rfl rfl ?_
 refine wl_gno rfl rfl rfl rfl ?_
 refine o_y (y_pick_f rfl rfl) rfl rfl ?_
 refine o_y (y_assign rfl) rfl rfl ?_
 refine wl_nil ?_
 refine e_blk ?_
 refine e_seq ?_
 refine w_seq ?_
 refine w_seq ?_
 refine w_region ?_
 refine o_y (y_move rfl) rfl rfl ?_
 refine o_y (y_not rfl) rfl rfl ?_
 refine wl_nil ?_
 refine e_seq ?_
 refine w_cond_t rfl ?_
 refine w_seq ?_
 refine w_region ?_
 refine o_y (y_assign rfl) rfl rfl ?_
 refine wl_nil ?_
 refine e_seq ?_
 refine w_ret ?_
 refine e_seq_ret ?_
 refine e_ret (ts := [2]) rfl rfl rfl (fun w hw => ?_)
 have hpo : portsOk e.ports = true := ports_yes (fun i hi => hI.2 i (by omega)) (by omega)
 have hm : mayOk e = false := by
   focus first
     | (exfalso; omega)
     | (simp [mayOk, adsOk_eq, *]
        done)
     | (have r1 : 1 ≤ e.addrs.length := by omega
        have r2 : e.addrs.length ≤ 8 := by omega
        have r3 : ¬ e.addrs = [] := by
          intro h; rw [h] at r1; simp at r1
        simp [mayOk, adsOk_eq, *]
        done)
     | (have r1 : ¬ 1 ≤ e.addrs.length := by omega
        have r3 : e.addrs = [] := List.length_eq_zero_iff.1 (by omega)
        simp [mayOk, adsOk_eq, *]
        done)
     | (have r1 : 1 ≤ e.addrs.length := by omega
        have r2 : ¬ e.addrs.length ≤ 8 := by omega
        simp [mayOk, adsOk_eq, *]
        done)
     | (have q0 : e.addrs = [] := List.length_eq_zero_iff.1 (by omega)
        simp [mayOk, adsOk_eq, *]
        done)
     | (have q0 : ¬ e.addrs = [] := by
          intro h; have h9 := congrArg List.length h; rw [List.length_nil] at h9; omega
        simp [mayOk, adsOk_eq, *]
        done)
     | (have q0 : e.addrs = [] := List.length_eq_zero_iff.1 (by omega)
        have q1 : e.ports = [] := List.length_eq_zero_iff.1 (by omega)
        simp [mayOk, adsOk_eq, *]
        done)
     | (have q0 : e.addrs = [] := List.length_eq_zero_iff.1 (by omega)
        have q1 : ¬ e.ports = [] := by
          intro h; have h9 := congrArg List.length h; rw [List.length_nil] at h9; omega
        simp [mayOk, adsOk_eq, *]
        done)
     | (trace_state; fail)
 exact ⟨(), by rw [ent_bad h2_1 (.inr (.inr (.inr hm)))]; rfl, hw.base, (hw.weak (List.nil_sublist _) (fun s hs => hs)).toNews⟩
 refine wl_gyes rfl rfl ?_
 refine o_y (y_not rfl) rfl rfl ?_
 refine o_y (y_pick_t rfl rfl) rfl rfl ?_
 refine o_y (y_move rfl) rfl rfl ?_
 refine wl_gyes rfl rfl ?_
 refine o_y (y_field fa_47_5 rfl) rfl rfl ?_
 refine wl_gyes rfl rfl ?_
 refine o_y (y_loadr 0 ty_44 rfl rfl rfl) rfl rfl ?_
 refine wl_gyes rfl rfl ?_
 refine o_y (y_lenl Tryz.underlying44 rfl) rfl rfl ?_
 refine wl_gyes rfl rfl ?_
 refine o_y (y_eql rfl rfl) rfl rfl ?_
 refine wl_splitp (t := 144) rfl (fun h18_30 => ?_) (fun h18_30 => ?_)
 refine o_y (y_pick_t rfl rfl) rfl rfl ?_
 refine o_y (y_assign rfl) rfl rfl ?_
 refine wl_nil ?_
 refine e_blk ?_
 refine e_seq ?_
 refine w_seq ?_
 refine w_seq ?_
 refine w_region ?_
 refine o_y (y_move rfl) rfl rfl ?_
 refine o_y (y_not rfl) rfl rfl ?_
 refine wl_nil ?_
 refine e_seq ?_
 refine w_cond_f rfl ?_
 refine w_skip ?_
 refine e_seq ?_
 refine w_seq ?_
 refine w_region ?_
 refine o_y (y_assign rfl) rfl rfl ?_
 refine wl_nil ?_
 refine e_seq ?_
 refine w_ret ?_
 refine e_ret (ts := [2]) rfl rfl rfl (fun w hw => ?_)
 have hpo : portsOk e.ports = true := ports_yes (fun i hi => hI.2 i (by omega)) (by omega)
 have hm : mayOk e = true := by
   focus first
     | (exfalso; omega)
     | (simp [mayOk, adsOk_eq, *]
        done)
     | (have r1 : 1 ≤ e.addrs.length := by omega
        have r2 : e.addrs.length ≤ 8 := by omega
        have r3 : ¬ e.addrs = [] := by
          intro h; rw [h] at r1; simp at r1
        simp [mayOk, adsOk_eq, *]
        done)
     | (have r1 : ¬ 1 ≤ e.addrs.length := by omega
        have r3 : e.addrs = [] := List.length_eq_zero_iff.1 (by omega)
        simp [mayOk, adsOk_eq, *]
        done)
     | (have r1 : 1 ≤ e.addrs.length := by omega
        have r2 : ¬ e.addrs.length ≤ 8 := by omega
        simp [mayOk, adsOk_eq, *]
        done)
     | (have q0 : e.addrs = [] := List.length_eq_zero_iff.1 (by omega)
        simp [mayOk, adsOk_eq, *]
        done)
     | (have q0 : ¬ e.addrs = [] := by
          intro h; have h9 := congrArg List.length h; rw [List.length_nil] at h9; omega
        simp [mayOk, adsOk_eq, *]
        done)
     | (have q0 : e.addrs = [] := List.length_eq_zero_iff.1 (by omega)
        have q1 : e.ports = [] := List.length_eq_zero_iff.1 (by omega)
        simp [mayOk, adsOk_eq, *]
        done)
     | (have q0 : e.addrs = [] := List.length_eq_zero_iff.1 (by omega)
        have q1 : ¬ e.ports = [] := by
          intro h; have h9 := congrArg List.length h; rw [List.length_nil] at h9; omega
        simp [mayOk, adsOk_eq, *]
        done)
     | (trace_state; fail)
 exact ⟨(), by rw [ent_good h2_1 h4_2 h4_6 hpo hm]; rfl, hw.base, (hw.weak (List.nil_sublist _) (fun s hs => hs)).toNews⟩
 refine o_y (y_pick_t rfl rfl) rfl rfl ?_
 refine o_y (y_assign rfl) rfl rfl ?_
 refine wl_nil ?_
 refine e_blk ?_
 refine e_seq ?_
 refine w_seq ?_
 refine w_seq ?_
 refine w_region ?_
 refine o_y (y_move rfl) rfl rfl ?_
 refine o_y (y_not rfl) rfl rfl ?_
 refine wl_nil ?_
 refine e_seq ?_
 refine w_cond_t rfl ?_
 refine w_seq ?_
 refine w_region ?_
 refine o_y (y_assign rfl) rfl rfl ?_
 refine wl_nil ?_
 refine e_seq ?_
 refine w_ret ?_
 refine e_seq_ret ?_
 refine e_ret (ts := [2]) rfl rfl rfl (fun w hw => ?_)
 have hpo : portsOk e.ports = true := ports_yes (fun i hi => hI.2 i (by omega)) (by omega)
 have hm : mayOk e = false := by
   focus first
     | (exfalso; omega)
     | (simp [mayOk, adsOk_eq, *]
        done)
     | (have r1 : 1 ≤ e.addrs.length := by omega
        have r2 : e.addrs.length ≤ 8 := by omega
        have r3 : ¬ e.addrs = [] := by
          intro h; rw [h] at r1; simp at r1
        simp [mayOk, adsOk_eq, *]
        done)
     | (have r1 : ¬ 1 ≤ e.addrs.length := by omega
        have r3 : e.addrs = [] := List.length_eq_zero_iff.1 (by omega)
        simp [mayOk, adsOk_eq, *]
        done)
     | (have r1 : 1 ≤ e.addrs.length := by omega
        have r2 : ¬ e.addrs.length ≤ 8 := by omega
        simp [mayOk, adsOk_eq, *]
        done)
     | (have q0 : e.addrs = [] := List.length_eq_zero_iff.1 (by omega)
        simp [mayOk, adsOk_eq, *]
        done)
     | (have q0 : ¬ e.addrs = [] := by
          intro h; have h9 := congrArg List.length h; rw [List.length_nil] at h9; omega
        simp [mayOk, adsOk_eq, *]
        done)
     | (have q0 : e.addrs = [] := List.length_eq_zero_iff.1 (by omega)
        have q1 : e.ports = [] := List.length_eq_zero_iff.1 (by omega)
        simp [mayOk, adsOk_eq, *]
        done)
     | (have q0 : e.addrs = [] := List.length_eq_zero_iff.1 (by omega)
        have q1 : ¬ e.ports = [] := by
          intro h; have h9 := congrArg List.length h; rw [List.length_nil] at h9; omega
        simp [mayOk, adsOk_eq, *]
        done)
     | (trace_state; fail)
 exact ⟨(), by rw [ent_bad h2_1 (.inr (.inr (.inr hm)))]; rfl, hw.base, (hw.weak (List.nil_sublist _) (fun s hs => hs)).toNews⟩
 refine o_y (y_pick_t rfl rfl) rfl rfl ?_
 refine o_y (y_move rfl) rfl rfl ?_
 refine wl_gno rfl rfl rfl rfl ?_
 refine wl_gno rfl rfl rfl rfl ?_
 refine wl_gno rfl rfl rfl rfl ?_
 refine wl_gno rfl rfl rfl rfl ?_
 refine o_y (y_pick_f rfl rfl) rfl rfl ?_
 refine o_y (y_move rfl) rfl rfl ?_
 refine wl_gno rfl rfl rfl rfl ?_
 refine wl_gno rfl rfl rfl rfl ?_
 refine wl_gno rfl rfl rfl rfl ?_
 refine wl_gno rfl rfl rfl rfl ?_
 refine o_y (y_pick_f rfl rfl) rfl rfl ?_
 refine o_y (y_assign rfl) rfl rfl ?_
 refine wl_nil ?_
 refine e_blk ?_
 refine e_seq ?_
 refine w_seq ?_
 refine w_seq ?_
 refine w_region ?_
 refine o_y (y_move rfl) rfl rfl ?_
 refine o_y (y_not rfl) rfl rfl ?_
 refine wl_nil ?_
 refine e_seq ?_
 refine w_cond_t rfl ?_
 refine w_seq ?_
 refine w_region ?_
 refine o_y (y_assign rfl) rfl rfl ?_
 refine wl_nil ?_
 refine e_seq ?_
 refine w_ret ?_
 refine e_seq_ret ?_
 refine e_ret (ts := [2]) rfl rfl rfl (fun w hw => ?_)
 have hpo : portsOk e.ports = true := ports_yes (fun i hi => hI.2 i (by omega)) (by omega)
 have hm : mayOk e = false := by
   focus first
     | (exfalso; omega)
     | (simp [mayOk, adsOk_eq, *]
        done)
     | (have r1 : 1 ≤ e.addrs.length := by omega
        have r2 : e.addrs.length ≤ 8 := by omega
        have r3 : ¬ e.addrs = [] := by
          intro h; rw [h] at r1; simp at r1
        simp [mayOk, adsOk_eq, *]
        done)
     | (have r1 : ¬ 1 ≤ e.addrs.length := by omega
        have r3 : e.addrs = [] := List.length_eq_zero_iff.1 (by omega)
        simp [mayOk, adsOk_eq, *]
        done)
     | (have r1 : 1 ≤ e.addrs.length := by omega
        have r2 : ¬ e.addrs.length ≤ 8 := by omega
        simp [mayOk, adsOk_eq, *]
        done)
     | (have q0 : e.addrs = [] := List.length_eq_zero_iff.1 (by omega)
        simp [mayOk, adsOk_eq, *]
        done)
     | (have q0 : ¬ e.addrs = [] := by
          intro h; have h9 := congrArg List.length h; rw [List.length_nil] at h9; omega
        simp [mayOk, adsOk_eq, *]
        done)
     | (have q0 : e.addrs = [] := List.length_eq_zero_iff.1 (by omega)
        have q1 : e.ports = [] := List.length_eq_zero_iff.1 (by omega)
        simp [mayOk, adsOk_eq, *]
        done)
     | (have q0 : e.addrs = [] := List.length_eq_zero_iff.1 (by omega)
        have q1 : ¬ e.ports = [] := by
          intro h; have h9 := congrArg List.length h; rw [List.length_nil] at h9; omega
        simp [mayOk, adsOk_eq, *]
        done)
     | (trace_state; fail)
 exact ⟨(), by rw [ent_bad h2_1 (.inr (.inr (.inr hm)))]; rfl, hw.base, (hw.weak (List.nil_sublist _) (fun s hs => hs)).toNews⟩
 refine o_y (y_pick_t rfl rfl) rfl rfl ?_
 refine o_y (y_move rfl) rfl rfl ?_
 refine wl_gno rfl rfl rfl rfl ?_
 refine wl_gno rfl rfl rfl rfl ?_
 refine wl_gno rfl rfl rfl rfl ?_
 refine o_y (y_pick_f rfl rfl) rfl rfl ?_
 refine o_y (y_move rfl) rfl rfl ?_
 refine wl_gno rfl rfl rfl rfl ?_
 refine wl_gno rfl rfl rfl rfl ?_
 refine wl_gno rfl rfl rfl rfl ?_
 refine wl_gno rfl rfl rfl rfl ?_
 refine o_y (y_pick_f rfl rfl) rfl rfl ?_
 refine o_y (y_move rfl) rfl rfl ?_
 refine wl_gno rfl rfl rfl rfl ?_
 refine wl_gno rfl rfl rfl rfl ?_
 refine wl_gno rfl rfl rfl rfl ?_
 refine wl_gno rfl rfl rfl rfl ?_
 refine o_y (y_pick_f rfl rfl) rfl rfl ?_
 refine o_y (y_assign rfl) rfl rfl ?_
 refine wl_nil ?_
 refine e_blk ?_
 refine e_seq ?_
 refine w_seq ?_
 refine w_seq ?_
 refine w_region ?_
 refine o_y (y_move rfl) rfl rfl ?_
 refine o_y (y_not rfl) rfl rfl ?_
 refine wl_nil ?_
 refine e_seq ?_
 refine w_cond_t rfl ?_
 refine w_seq ?_
 refine w_region ?_
 refine o_y (y_assign rfl) rfl rfl ?_
 refine wl_nil ?_
 refine e_seq ?_
 refine w_ret ?_
 refine e_seq_ret ?_
 refine e_ret (ts := [2]) rfl rfl rfl (fun w hw => ?_)
 have hpo : portsOk e.ports = true := ports_yes (fun i hi => hI.2 i (by omega)) (by omega)
 have hm : mayOk e = false := by
   focus first
     | (exfalso; omega)
     | (simp [mayOk, adsOk_eq, *]
        done)
     | (have r1 : 1 ≤ e.addrs.length := by omega
        have r2 : e.addrs.length ≤ 8 := by omega
        have r3 : ¬ e.addrs = [] := by
          intro h; rw [h] at r1; simp at r1
        simp [mayOk, adsOk_eq, *]
        done)
     | (have r1 : ¬ 1 ≤ e.addrs.length := by omega
        have r3 : e.addrs = [] := List.length_eq_zero_iff.1 (by omega)
        simp [mayOk, adsOk_eq, *]
        done)
     | (have r1 : 1 ≤ e.addrs.length := by omega
        have r2 : ¬ e.addrs.length ≤ 8 := by omega
        simp [mayOk, adsOk_eq, *]
        done)
     | (have q0 : e.addrs = [] := List.length_eq_zero_iff.1 (by omega)
        simp [mayOk, adsOk_eq, *]
        done)
     | (have q0 : ¬ e.addrs = [] := by
          intro h; have h9 := congrArg List.length h; rw [List.length_nil] at h9; omega
        simp [mayOk, adsOk_eq, *]
        done)
     | (have q0 : e.addrs = [] := List.length_eq_zero_iff.1 (by omega)
        have q1 : e.ports = [] := List.length_eq_zero_iff.1 (by omega)
        simp [mayOk, adsOk_eq, *]
        done)
     | (have q0 : e.addrs = [] := List.length_eq_zero_iff.1 (by omega)
        have q1 : ¬ e.ports = [] := by
          intro h; have h9 := congrArg List.length h; rw [List.length_nil] at h9; omega
        simp [mayOk, adsOk_eq, *]
        done)
     | (trace_state; fail)
 exact ⟨(), by rw [ent_bad h2_1 (.inr (.inr (.inr hm)))]; rfl, hw.base, (hw.weak (List.nil_sublist _) (fun s hs => hs)).toNews⟩
 refine o_y (y_pick_t rfl rfl) rfl rfl ?_
 refine o_y (y_move rfl) rfl rfl ?_
 refine wl_gno rfl rfl rfl rfl ?_
 refine wl_gno rfl rfl rfl rfl ?_
 refine wl_gno rfl rfl rfl rfl ?_
 refine wl_gno rfl rfl rfl rfl ?_
 refine o_y (y_pick_f rfl rfl) rfl rfl ?_
 refine o_y (y_move rfl) rfl rfl ?_
 refine wl_gno rfl rfl rfl rfl ?_
 refine wl_gno rfl rfl rfl rfl ?_
 refine wl_gno rfl rfl rfl rfl ?_
 refine o_y (y_pick_f rfl rfl) rfl rfl ?_
 refine o_y (y_move rfl) rfl rfl ?_
 refine wl_gno rfl rfl rfl rfl ?_
 refine wl_gno rfl rfl rfl rfl ?_
 refine wl_gno rfl rfl rfl rfl ?_
 refine wl_gno rfl rfl rfl rfl ?_
 refine o_y (y_pick_f rfl rfl) rfl rfl ?_
 refine o_y (y_move rfl) rfl rfl ?_
 refine wl_gno rfl rfl rfl rfl ?_
 refine wl_gno rfl rfl rfl rfl ?_
 refine wl_gno rfl rfl rfl rfl ?_
 refine wl_gno rfl rfl rfl rfl ?_
 refine o_y (y_pick_f rfl rfl) rfl rfl ?_
 refine o_y (y_assign rfl) rfl rfl ?_
 refine wl_nil ?_
 refine e_blk ?_
 refine e_seq ?_
 refine w_seq ?_
 refine w_seq ?_
 refine w_region ?_
 refine o_y (y_move rfl) rfl rfl ?_
 refine o_y (y_not rfl) rfl rfl ?_
 refine wl_nil ?_
 refine e_seq ?_
 refine w_cond_t rfl ?_
 refine w_seq ?_
 refine w_region ?_
 refine o_y (y_assign rfl) rfl rfl ?_
 refine wl_nil ?_
 refine e_seq ?_
 refine w_ret ?_
 refine e_seq_ret ?_
 refine e_ret (ts := [2]) rfl rfl rfl (fun w hw => ?_)
 have hpo : portsOk e.ports = true := ports_yes (fun i hi => hI.2 i (by omega)) (by omega)
 have hm : mayOk e = false := by
   focus first
     | (exfalso; omega)
     | (simp [mayOk, adsOk_eq, *]
        done)
     | (have r1 : 1 ≤ e.addrs.length := by omega
        have r2 : e.addrs.length ≤ 8 := by omega
        have r3 : ¬ e.addrs = [] := by
          intro h; rw [h] at r1; simp at r1
        simp [mayOk, adsOk_eq, *]
        done)
     | (have r1 : ¬ 1 ≤ e.addrs.length := by omega
        have r3 : e.addrs = [] := List.length_eq_zero_iff.1 (by omega)
        simp [mayOk, adsOk_eq, *]
        done)
     | (have r1 : 1 ≤ e.addrs.length := by omega
        have r2 : ¬ e.addrs.length ≤ 8 := by omega
        simp [mayOk, adsOk_eq, *]
        done)
     | (have q0 : e.addrs = [] := List.length_eq_zero_iff.1 (by omega)
        simp [mayOk, adsOk_eq, *]
        done)
     | (have q0 : ¬ e.addrs = [] := by
          intro h; have h9 := congrArg List.length h; rw [List.length_nil] at h9; omega
        simp [mayOk, adsOk_eq, *]
        done)
     | (have q0 : e.addrs = [] := List.length_eq_zero_iff.1 (by omega)
        have q1 : e.ports = [] := List.length_eq_zero_iff.1 (by omega)
        simp [mayOk, adsOk_eq, *]
        done)
     | (have q0 : e.addrs = [] := List.length_eq_zero_iff.1 (by omega)
        have q1 : ¬ e.ports = [] := by
          intro h; have h9 := congrArg List.length h; rw [List.length_nil] at h9; omega
        simp [mayOk, adsOk_eq, *]
        done)
     | (trace_state; fail)
 exact ⟨(), by rw [ent_bad h2_1 (.inr (.inr (.inr hm)))]; rfl, hw.base, (hw.weak (List.nil_sublist _) (fun s hs => hs)).toNews⟩
 refine o_y (y_move rfl) rfl rfl ?_
 refine wl_gno rfl rfl rfl rfl ?_
 refine wl_gno rfl rfl rfl rfl ?_
 refine wl_gno rfl rfl rfl rfl ?_
 refine wl_gno rfl rfl rfl rfl ?_
 refine o_y (y_pick_f rfl rfl) rfl rfl ?_
 refine o_y (y_move rfl) rfl rfl ?_
 refine wl_gno rfl rfl rfl rfl ?_
 refine wl_gno rfl rfl rfl rfl ?_
 refine wl_gno rfl rfl rfl rfl ?_
 refine wl_gno rfl rfl rfl rfl ?_
 refine o_y (y_pick_f rfl rfl) rfl rfl ?_
 refine o_y (y_move rfl) rfl rfl ?_
 refine wl_gno rfl rfl rfl rfl ?_
 refine wl_gno rfl rfl rfl rfl ?_
 refine wl_gno rfl rfl rfl rfl ?_
 refine o_y (y_pick_f rfl rfl) rfl rfl ?_
 refine o_y (y_move rfl) rfl rfl ?_
 refine wl_gno rfl rfl rfl rfl ?_
 refine wl_gno rfl rfl rfl rfl ?_
 refine wl_gno rfl rfl rfl rfl ?_
 refine wl_gno rfl rfl rfl rfl ?_
 refine o_y (y_pick_f rfl rfl) rfl rfl ?_
 refine o_y (y_move rfl) rfl rfl ?_
 refine wl_gno rfl rfl rfl rfl ?_
 refine wl_gno rfl rfl rfl rfl ?_
 refine wl_gno rfl rfl rfl rfl ?_
 refine wl_gno rfl rfl rfl rfl ?_
 refine o_y (y_pick_f rfl rfl) rfl rfl ?_
 refine o_y (y_assign rfl) rfl rfl ?_
 refine wl_nil ?_
 refine e_blk ?_
 refine e_seq ?_
 refine w_seq ?_
 refine w_seq ?_
 refine w_region ?_
 refine o_y (y_move rfl) rfl rfl ?_
 refine o_y (y_not rfl) rfl rfl ?_
 refine wl_nil ?_
 refine e_seq ?_
 refine w_cond_t rfl ?_
 refine w_seq ?_
 refine w_region ?_
 refine o_y (y_assign rfl) rfl rfl ?_
 refine wl_nil ?_
 refine e_seq ?_
 refine w_ret ?_
 refine e_seq_ret ?_
 refine e_ret (ts := [2]) rfl rfl rfl (fun w hw => ?_)
 have hpo : portsOk e.ports = true := ports_yes (fun i hi => hI.2 i (by omega)) (by omega)
 have hm : mayOk e = false := by
   focus first
     | (exfalso; omega)
     | (simp [mayOk, adsOk_eq, *]
        done)
     | (have r1 : 1 ≤ e.addrs.length := by omega
        have r2 : e.addrs.length ≤ 8 := by omega
        have r3 : ¬ e.addrs = [] := by
          intro h; rw [h] at r1; simp at r1
        simp [mayOk, adsOk_eq, *]
        done)
     | (have r1 : ¬ 1 ≤ e.addrs.length := by omega
        have r3 : e.addrs = [] := List.length_eq_zero_iff.1 (by omega)
        simp [mayOk, adsOk_eq, *]
        done)
     | (have r1 : 1 ≤ e.addrs.length := by omega
        have r2 : ¬ e.addrs.length ≤ 8 := by omega
        simp [mayOk, adsOk_eq, *]
        done)
     | (have q0 : e.addrs = [] := List.length_eq_zero_iff.1 (by omega)
        simp [mayOk, adsOk_eq, *]
        done)
     | (have q0 : ¬ e.addrs = [] := by
          intro h; have h9 := congrArg List.length h; rw [List.length_nil] at h9; omega
        simp [mayOk, adsOk_eq, *]
        done)
     | (have q0 : e.addrs = [] := List.length_eq_zero_iff.1 (by omega)
        have q1 : e.ports = [] := List.length_eq_zero_iff.1 (by omega)
        simp [mayOk, adsOk_eq, *]
        done)
     | (have q0 : e.addrs = [] := List.length_eq_zero_iff.1 (by omega)
        have q1 : ¬ e.ports = [] := by
          intro h; have h9 := congrArg List.length h; rw [List.length_nil] at h9; omega
        simp [mayOk, adsOk_eq, *]
        done)
     | (trace_state; fail)
 exact ⟨(), by rw [ent_bad h2_1 (.inr (.inr (.inr hm)))]; rfl, hw.base, (hw.weak (List.nil_sublist _) (fun s hs => hs)).toNews⟩
 refine o_y (y_assign rfl) rfl rfl ?_
 refine wl_nil ?_
 refine e_seq ?_
 refine w_cond_f rfl ?_
 refine w_skip ?_
 refine e_blk ?_
 refine e_seq ?_
 refine w_seq ?_
 refine w_seq ?_
 refine w_region ?_
 refine o_y (y_move rfl) rfl rfl ?_
 refine o_y (y_not rfl) rfl rfl ?_
 refine wl_nil ?_
 refine e_seq ?_
 refine w_cond_t rfl ?_
 refine w_seq ?_
 refine w_region ?_
 refine o_y (y_assign rfl) rfl rfl ?_
 refine wl_nil ?_
 refine e_seq ?_
 refine w_ret ?_
 refine e_seq_ret ?_
 refine e_ret (ts := [2]) rfl rfl rfl (fun w hw => ?_)
 have hpo : portsOk e.ports = true := ports_yes (fun i hi => hI.2 i (by omega)) (by omega)
 have hm : mayOk e = false := by
   focus first
     | (exfalso; omega)
     | (simp [mayOk, adsOk_eq, *]
        done)
     | (have r1 : 1 ≤ e.addrs.length := by omega
        have r2 : e.addrs.length ≤ 8 := by omega
        have r3 : ¬ e.addrs = [] := by
          intro h; rw [h] at r1; simp at r1
        simp [mayOk, adsOk_eq, *]
        done)
     | (have r1 : ¬ 1 ≤ e.addrs.length := by omega
        have r3 : e.addrs = [] := List.length_eq_zero_iff.1 (by omega)
        simp [mayOk, adsOk_eq, *]
        done)
     | (have r1 : 1 ≤ e.addrs.length := by omega
        have r2 : ¬ e.addrs.length ≤ 8 := by omega
        simp [mayOk, adsOk_eq, *]
        done)
     | (have q0 : e.addrs = [] := List.length_eq_zero_iff.1 (by omega)
        simp [mayOk, adsOk_eq, *]
        done)
     | (have q0 : ¬ e.addrs = [] := by
          intro h; have h9 := congrArg List.length h; rw [List.length_nil] at h9; omega
        simp [mayOk, adsOk_eq, *]
        done)
     | (have q0 : e.addrs = [] := List.length_eq_zero_iff.1 (by omega)
        have q1 : e.ports = [] := List.length_eq_zero_iff.1 (by omega)
        simp [mayOk, adsOk_eq, *]
        done)
     | (have q0 : e.addrs = [] := List.length_eq_zero_iff.1 (by omega)
        have q1 : ¬ e.ports = [] := by
          intro h; have h9 := congrArg List.length h; rw [List.length_nil] at h9; omega
        simp [mayOk, adsOk_eq, *]
        done)
     | (trace_state; fail)
 exact ⟨(), by rw [ent_bad h2_1 (.inr (.inr (.inr hm)))]; rfl, hw.base, (hw.weak (List.nil_sublist _) (fun s hs => hs)).toNews⟩
end Go.Proofs.YtfmelbpgkbiooaaGreat
