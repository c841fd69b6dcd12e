/- the law of the examples of chains -/
import Derived.Test.YtckfjfnkombelaaHcQC
import Derived.Test.YtckfjfnkombelaaLqQC
namespace Go.Proofs.Ytckfjfnkombelaa
open Go.RowKit Go.Shelf
set_option linter.unusedVariables false
set_option linter.unusedSimpArgs false

theorem bu_52 : Try.prog.built 52 [] = some [.slice none 0 0, .int .i64 0, .string ⟨#[]⟩, .int .i64 0, .string ⟨#[]⟩, .slice none 0 0, .string ⟨#[]⟩, .slice none 0 0, .int .u32 0].toArray := by kernel_rfl
theorem ent_23 : Enters Try.prog 23 := enters_of Try.func23 (by kernel_rfl) rfl
theorem ent_37 : Enters Try.prog 37 := enters_of Try.func37 (by kernel_rfl) rfl
theorem ent_39 : Enters Try.prog 39 := enters_of Try.func39 (by kernel_rfl) rfl
theorem ent_52 : Enters Try.prog 52 := enters_of Try.func52 (by kernel_rfl) rfl

set_option maxRecDepth 100000 in
theorem c_Follow_nil (n : Str) : RC Try.prog 26 #[.pointer none, .string (ba n)] [] (α := Option Addr × Nat) (fun p => .agg (chC 1 p.1 p.2 0 le0).toArray) (fun p => [Ch.ls p.1 p.2 25 1 encs [n]]) := by
  refine rc_of_W (args := [.pointer none, .string (ba n)]) 55 Try.func26 rfl rfl rfl (fun w0 => ?_)
  refine w_seq ?_
  refine w_region ?_
  refine o_alloc ty_52 rfl rfl (fun b1 => ?_)
  refine wl_nil ?_
  refine e_seq ?_
  refine w_scope ?_
  refine w_seq ?_
  refine w_region ?_
  refine o_y (y_move rfl) rfl rfl ?_
  refine o_bsl (vs := [_]) ([n] : List (Str)) enc_s Try.underlying22 ty_25 rfl rfl rfl rfl rfl rfl (fun As2 => ?_)
  refine o_y (y_build rfl (bu_52_0 _ _ _)) rfl rfl ?_
  refine o_alloc ty_52 rfl rfl (fun b3 => ?_)
  refine o_store ty_52 rfl rfl rfl .z rfl rfl rfl rfl ?_
  refine wl_nil ?_
  refine e_seq ?_
  refine w_seq ?_
  refine w_seq ?_
  refine w_region ?_
  refine o_y (y_move rfl) rfl rfl ?_
  refine o_y (y_eqp Try.underlying43 rfl rfl) rfl rfl ?_
  refine wl_as (t := 12) (.bool true) rfl (congrArg Value.bool rfl) ?_
  refine o_y (y_move rfl) rfl rfl ?_
  refine wl_gno rfl rfl rfl rfl ?_
  refine wl_gno rfl rfl rfl rfl ?_
  refine wl_gno rfl rfl rfl rfl ?_
  refine o_y (y_pick_t rfl rfl) rfl rfl ?_
  refine wl_nil ?_
  refine e_seq ?_
  refine w_cond_t rfl ?_
  refine w_seq ?_
  refine w_region ?_
  refine o_y (y_loadrs 0 ty_52 rfl rfl rfl rfl) rfl rfl ?_
  refine o_store ty_52 rfl rfl rfl (.s (.s (.z))) rfl rfl rfl rfl ?_
  refine wl_nil ?_
  refine e_seq ?_
  refine w_ret ?_
  refine e_seq_ret ?_
  refine e_scope_ret ?_
  refine e_rsr (rs := [.cell 4 52]) rfl (rs_cells 2 ty_52 rfl rfl rfl rfl rs_nil) rfl (fun w hw => ?_)
  exact ⟨(As2, 1), rfl, hw.base, (hw.weak (.cons _ (.cons_cons _ (.cons _ .slnil))) (fun s hs => hs)).toNews⟩

set_option maxRecDepth 100000 in
set_option maxHeartbeats 4000000 in
theorem c_ChaseNames  : Pure Try.prog 11 #[] (.bool true) := by
  intro w0
  refine calls_of_W (ok0 := no) (S := []) (args := []) 124 Try.func11 rfl rfl rfl (by simp) (by simp) ?_
  refine w_seq ?_
  refine w_region ?_
  refine o_y (y_assign rfl) rfl rfl ?_
  refine wl_nil ?_
  refine e_seq ?_
  refine w_seq ?_
  refine w_seq ?_
  refine w_region ?_
  refine o_callp rfl ent_23 c_lives21 rfl ?_
  refine wl_as (t := 9) (.bool true) rfl (congrArg Value.bool rfl) ?_
  refine o_y (y_not rfl) rfl rfl ?_
  refine wl_nil ?_
  refine e_seq ?_
  refine w_cond_f rfl ?_
  refine w_skip ?_
  refine e_seq ?_
  refine w_seq ?_
  refine w_region ?_
  refine o_bsl (vs := [_]) ([[97]] : List (Str)) enc_s Try.underlying36 ty_9 rfl rfl rfl rfl rfl rfl (fun As1 => ?_)
  refine o_callq rfl ent_49 rfl (c_host21 _ _ _ (by decide)) (fun w hw => (rd_cons (rd_Ls 0 rfl hw) rd_nil)) ?_
  refine o_bsl (vs := [_]) ([[98]] : List (Str)) enc_s Try.underlying36 ty_9 rfl rfl rfl rfl rfl rfl (fun As2 => ?_)
  refine o_callq rfl ent_49 rfl (c_host21 _ _ _ (by decide)) (fun w hw => (rd_cons (rd_Ls 0 rfl hw) rd_nil)) ?_
  refine o_bsl (vs := [_]) ([[99]] : List (Str)) enc_s Try.underlying36 ty_9 rfl rfl rfl rfl rfl rfl (fun As3 => ?_)
  refine o_callq rfl ent_49 rfl (c_host21 _ _ _ (by decide)) (fun w hw => (rd_cons (rd_Ls 0 rfl hw) rd_nil)) ?_
  refine o_y (y_assign rfl) rfl rfl ?_
  refine o_y (y_assign rfl) rfl rfl ?_
  refine o_y (y_assign rfl) rfl rfl ?_
  refine wl_nil ?_
  refine e_seq ?_
  refine w_seq ?_
  refine w_region ?_
  refine o_y (y_move rfl) rfl rfl ?_
  refine o_y (y_move rfl) rfl rfl ?_
  refine o_callq rfl ent_51 rfl (c_alias21 _ _) (fun w hw => rd_nil) ?_
  refine o_y (y_move rfl) rfl rfl ?_
  refine o_y (y_move rfl) rfl rfl ?_
  refine o_callq rfl ent_51 rfl (c_alias21 _ _) (fun w hw => rd_nil) ?_
  refine o_bsl (vs := [_, _]) (es3 : List (Le)) enc_le Try.underlying39 ty_50 rfl rfl rfl rfl rfl rfl (fun As4 => ?_)
  refine o_callr1 rfl ent_50 rfl (c_table21 es3 _ _ (bare_tb fit3.b) fit3.len fit3.ck fit3.nd fit3.sz) (fun w hw => (rd_cons (rd_Ls 0 rfl hw) (rd_cons (rd_rall (bare_rd fit3.b)) rd_nil))) (fun ⟨A4, c4⟩ => ?_)
  refine o_callr1 rfl ent_25 rfl (c_index_New0 1 (putAll [] es3) _ _ (bare_tb fit3.b2) (by have := fit3.sz; omega) fit3.tab) (fun w hw => (rd_cons (rd_Ls 0 rfl hw) (rd_cons (rd_rall (bare_rd fit3.b2)) rd_nil))) (fun ⟨ix, hix⟩ => ?_)
  refine wl_heap (fun w h => h.ixOpen) ?_
  refine o_y (y_move rfl) rfl rfl ?_
  refine o_y (y_extract rfl rfl) rfl rfl ?_
  refine o_y (y_extract rfl rfl) rfl rfl ?_
  refine o_y (y_assign rfl) rfl rfl ?_
  refine o_y (y_assign rfl) rfl rfl ?_
  refine wl_nil ?_
  refine e_seq ?_
  refine w_seq ?_
  refine w_seq ?_
  refine w_region ?_
  refine o_y (y_move rfl) rfl rfl ?_
  refine o_y (y_eqp Try.underlying43 rfl rfl) rfl rfl ?_
  refine wl_as (t := 30) (.bool false) rfl (congrArg Value.bool rfl) ?_
  refine wl_nil ?_
  refine e_seq ?_
  refine w_cond_f rfl ?_
  refine w_skip ?_
  refine e_seq ?_
  refine w_seq ?_
  refine w_region ?_
  refine o_y (y_move rfl) rfl rfl ?_
  refine o_y (y_move rfl) rfl rfl ?_
  refine o_callr1 rfl ent_26 rfl (c_Follow ix n21a) (fun w hw => (rd_cons (rd_all (rd_L 0 rfl hw) (.head _)) (rd_cons (rd_all (rd_L 0 rfl hw) (.tail _ (.head _))) rd_nil))) (fun ⟨A6, c6⟩ => ?_)
  refine o_y (y_move rfl) rfl rfl ?_
  refine o_y (y_move rfl) rfl rfl ?_
  refine o_callr1 rfl ent_26 rfl (c_Follow ix n21c) (fun w hw => (rd_cons (rd_all (rd_L 1 rfl hw) (.head _)) (rd_cons (rd_all (rd_L 1 rfl hw) (.tail _ (.head _))) rd_nil))) (fun ⟨A7, c7⟩ => ?_)
  refine o_alloc ty_52 rfl rfl (fun b9 => ?_)
  refine o_alloc ty_52 rfl rfl (fun b10 => ?_)
  refine o_store ty_52 rfl rfl rfl (.s (.z)) rfl rfl rfl rfl ?_
  refine o_store ty_52 rfl rfl rfl .z rfl rfl rfl rfl ?_
  refine wl_nil ?_
  refine e_seq ?_
  refine w_seq ?_
  refine w_region ?_
  refine o_y (y_move rfl) rfl rfl ?_
  refine o_y (y_loadrs 1 ty_52 rfl rfl rfl rfl) rfl rfl ?_
  refine o_callr1 rfl ent_37 rfl (c_Hops ix (chN ix.hm n21a) _ _ _ _ (by have := ch_len ix.hm n21a; omega)) (fun w hw => (rd_cons (rd_all (rd_L 4 rfl hw) (.head _)) (rd_cons (rd_all (rd_L 4 rfl hw) (.tail _ (.head _))) (rd_cons (rd_Ls 3 rfl hw) rd_nil)))) (fun ⟨A10, c10⟩ => ?_)
  refine o_y (y_assign rfl) rfl rfl ?_
  refine wl_nil ?_
  refine e_seq ?_
  refine w_seq ?_
  refine w_region ?_
  refine o_callp rfl ent_23 c_lives21 rfl ?_
  refine wl_as (t := 40) (.bool true) rfl (congrArg Value.bool rfl) ?_
  refine o_y (y_move rfl) rfl rfl ?_
  refine wl_gyes rfl rfl ?_
  refine o_y (y_field fa_52_1 rfl) rfl rfl ?_
  refine wl_gyes rfl rfl ?_
  refine o_y (y_loadr 2 ty_3 rfl rfl rfl) rfl rfl ?_
  refine wl_gyes rfl rfl ?_
  refine o_y (y_eql rfl rfl) rfl rfl ?_
  refine wl_at (t := 44) rfl (by rw [chS_E hix]; decide +kernel) ?_
  refine o_y (y_pick_t rfl rfl) rfl rfl ?_
  refine o_y (y_move rfl) rfl rfl ?_
  refine wl_gyes rfl rfl ?_
  refine o_y (y_loadrs 2 ty_52 rfl rfl rfl rfl) rfl rfl ?_
  refine wl_gyes rfl rfl ?_
  refine o_callq rfl ent_39 rfl (c_Last (chN ix.hm n21a) _ _ _ _ (by have := ch_len ix.hm n21a; omega)) (fun w hw => (rd_cons (rd_Ls 4 rfl hw) rd_nil)) ?_
  refine wl_gyes rfl rfl ?_
  refine o_y (y_move rfl) rfl rfl ?_
  refine wl_gyes rfl rfl ?_
  refine o_y (y_eqls rfl rfl) rfl rfl ?_
  refine wl_at (t := 50) rfl (by rw [chN_E hix]; decide +kernel) ?_
  refine o_y (y_pick_t rfl rfl) rfl rfl ?_
  refine o_y (y_move rfl) rfl rfl ?_
  refine wl_gyes rfl rfl ?_
  refine o_y (y_move rfl) rfl rfl ?_
  refine wl_gyes rfl rfl ?_
  refine o_y (y_lenl Try.underlying71 rfl) rfl rfl ?_
  refine wl_gyes rfl rfl ?_
  refine o_y (y_eql rfl rfl) rfl rfl ?_
  refine wl_at (t := 55) rfl (by rw [hops_E hix, chN_E hix]; decide +kernel) ?_
  refine o_y (y_pick_t rfl rfl) rfl rfl ?_
  refine o_y (y_move rfl) rfl rfl ?_
  refine wl_gyes rfl rfl ?_
  refine o_y (y_move rfl) rfl rfl ?_
  refine wl_gyes rfl rfl ?_
  refine o_y (y_ixm (k := 1) Try.underlying71 ty_80 rfl rfl (rs_L 0 rfl) rfl (by rw [hops_E hix, chN_E hix]; decide +kernel)) rfl rfl ?_
  refine wl_gyes rfl rfl ?_
  refine o_y (y_field fa_80_0 rfl) rfl rfl ?_
  refine wl_gyes rfl rfl ?_
  refine o_y (y_ldm0 (k := 1) enc_rc rc0 ty_25 rfl (rs_L 0 rfl) (by rw [hops_E hix, chN_E hix]; decide +kernel) rfl rfl) rfl rfl ?_
  refine wl_gyes rfl rfl ?_
  refine o_y (y_move rfl) rfl rfl ?_
  refine wl_gyes rfl rfl ?_
  refine o_y (y_eqls rfl rfl) rfl rfl ?_
  refine wl_at (t := 63) rfl (by rw [hops_E hix, chN_E hix]; decide +kernel) ?_
  refine o_y (y_pick_t rfl rfl) rfl rfl ?_
  refine o_y (y_move rfl) rfl rfl ?_
  refine wl_gyes rfl rfl ?_
  refine o_y (y_move rfl) rfl rfl ?_
  refine wl_gyes rfl rfl ?_
  refine o_y (y_ixm (k := 1) Try.underlying71 ty_80 rfl rfl (rs_L 0 rfl) rfl (by rw [hops_E hix, chN_E hix]; decide +kernel)) rfl rfl ?_
  refine wl_gyes rfl rfl ?_
  refine o_y (y_field fa_80_4 rfl) rfl rfl ?_
  refine wl_gyes rfl rfl ?_
  refine o_y (y_field fa_78_1 rfl) rfl rfl ?_
  refine wl_gyes rfl rfl ?_
  refine o_y (y_ldm 7 (k := 1) enc_rc rc0 ty_25 rfl (rs_L 0 rfl) (by rw [hops_E hix, chN_E hix]; decide +kernel) rfl rfl) rfl rfl ?_
  refine wl_gyes rfl rfl ?_
  refine o_y (y_move rfl) rfl rfl ?_
  refine wl_gyes rfl rfl ?_
  refine o_y (y_eqls rfl rfl) rfl rfl ?_
  refine wl_at (t := 72) rfl (by rw [hops_E hix, chN_E hix]; decide +kernel) ?_
  refine o_y (y_pick_t rfl rfl) rfl rfl ?_
  refine o_y (y_move rfl) rfl rfl ?_
  refine wl_gyes rfl rfl ?_
  refine o_y (y_move rfl) rfl rfl ?_
  refine wl_gyes rfl rfl ?_
  refine o_y (y_ixm (k := 1) Try.underlying71 ty_80 rfl rfl (rs_L 0 rfl) rfl (by rw [hops_E hix, chN_E hix]; decide +kernel)) rfl rfl ?_
  refine wl_gyes rfl rfl ?_
  refine o_y (y_field fa_80_3 rfl) rfl rfl ?_
  refine wl_gyes rfl rfl ?_
  refine o_y (y_ldm 3 (k := 1) enc_rc rc0 ty_48 rfl (rs_L 0 rfl) (by rw [hops_E hix, chN_E hix]; decide +kernel) rfl rfl) rfl rfl ?_
  refine wl_gyes rfl rfl ?_
  refine o_y (y_eql rfl rfl) rfl rfl ?_
  refine wl_at (t := 79) rfl (by rw [hops_E hix, chN_E hix]; decide +kernel) ?_
  refine o_y (y_pick_t rfl rfl) rfl rfl ?_
  refine o_y (y_move rfl) rfl rfl ?_
  refine wl_gyes rfl rfl ?_
  refine o_y (y_field fa_52_1 rfl) rfl rfl ?_
  refine wl_gyes rfl rfl ?_
  refine o_y (y_loadr 1 ty_3 rfl rfl rfl) rfl rfl ?_
  refine wl_gyes rfl rfl ?_
  refine o_y (y_eql rfl rfl) rfl rfl ?_
  refine wl_at (t := 84) rfl (by rw [chS_E hix]; decide +kernel) ?_
  refine o_y (y_pick_t rfl rfl) rfl rfl ?_
  refine o_y (y_move rfl) rfl rfl ?_
  refine wl_gyes rfl rfl ?_
  refine o_y (y_field fa_52_0 rfl) rfl rfl ?_
  refine wl_gyes rfl rfl ?_
  refine o_y (y_loadr 1 ty_22 rfl rfl rfl) rfl rfl ?_
  refine wl_gyes rfl rfl ?_
  refine o_y (y_move rfl) rfl rfl ?_
  refine wl_gyes rfl rfl ?_
  refine o_bsl (vs := [_]) ([n21c] : List (Str)) enc_s Try.underlying22 ty_25 rfl rfl rfl rfl rfl rfl (fun As12 => ?_)
  refine wl_gyes rfl rfl ?_
  refine o_callq rfl ent_28 rfl (c_kit_Same_n _ _ _ _ _ _ (by have := (ch_len ix.hm n21c).2; omega)) (fun w hw => (rd_cons (rd_Ls 4 rfl hw) (rd_cons (rd_Ls 0 rfl hw) rd_nil))) ?_
  refine wl_as (t := 91) (.bool true) rfl (congrArg Value.bool (by rw [chN_E hix]; decide +kernel)) ?_
  refine o_y (y_pick_t rfl rfl) rfl rfl ?_
  refine o_y (y_move rfl) rfl rfl ?_
  refine wl_gyes rfl rfl ?_
  refine o_y (y_move rfl) rfl rfl ?_
  refine wl_gyes rfl rfl ?_
  refine o_y (y_loadrs 2 ty_52 rfl rfl rfl rfl) rfl rfl ?_
  refine wl_gyes rfl rfl ?_
  refine o_callr1 rfl ent_37 rfl (c_Hops ix (chN ix.hm n21c) _ _ _ _ (by have := ch_len ix.hm n21c; omega)) (fun w hw => (rd_cons (rd_all (rd_L 6 rfl hw) (.head _)) (rd_cons (rd_all (rd_L 6 rfl hw) (.tail _ (.head _))) (rd_cons (rd_Ls 4 rfl hw) rd_nil)))) (fun ⟨A12, c12⟩ => ?_)
  refine wl_gyes rfl rfl ?_
  refine o_y (y_lenl Try.underlying71 rfl) rfl rfl ?_
  refine wl_gyes rfl rfl ?_
  refine o_y (y_eql rfl rfl) rfl rfl ?_
  refine wl_at (t := 98) rfl (by rw [hops_E hix, chN_E hix]; decide +kernel) ?_
  refine o_y (y_pick_t rfl rfl) rfl rfl ?_
  refine o_y (y_move rfl) rfl rfl ?_
  refine wl_gyes rfl rfl ?_
  refine o_y (y_build rfl (bu_52)) rfl rfl ?_
  refine wl_gyes rfl rfl ?_
  refine o_callq rfl ent_39 rfl (c_Last [] none 0 0 le0 (by decide)) (fun w hw => (rd_cons (rd_none) rd_nil)) ?_
  refine wl_gyes rfl rfl ?_
  refine o_y (y_eqls rfl rfl) rfl rfl ?_
  refine wl_at (t := 103) rfl rfl ?_
  refine o_y (y_pick_t rfl rfl) rfl rfl ?_
  refine o_y (y_move rfl) rfl rfl ?_
  refine wl_gyes rfl rfl ?_
  refine o_y (y_loadrs 4 ty_52 rfl rfl rfl rfl) rfl rfl ?_
  refine wl_gyes rfl rfl ?_
  refine o_y (y_loadrs 4 ty_52 rfl rfl rfl rfl) rfl rfl ?_
  refine wl_gyes rfl rfl ?_
  refine o_callq rfl ent_52 rfl (c_chase_Same (chN ix.hm n21a) _ _ (chS ix.hm n21a) (chE ix.hm n21a) (chN ix.hm n21a) _ _ (chS ix.hm n21a) (chE ix.hm n21a) (by have := ch_len ix.hm n21a; omega) (by have := (ix_bnd hix (bare_tb fit3.b2) (chE_mem hix n21a)).la; omega) (by have := (ix_bnd hix (bare_tb fit3.b2) (chE_mem hix n21a)).lp; omega)) (fun w hw => (rd_cons (rd_Ls 6 rfl hw) (rd_cons (rd_all (rd_L 7 rfl hw) (.tail _ (.tail _ (mem_flatR (chE_mem hix n21a) _ (elRA _))))) (rd_cons (rd_all (rd_L 7 rfl hw) (.tail _ (.tail _ (mem_flatR (chE_mem hix n21a) _ (elRB _))))) (rd_cons (rd_Ls 6 rfl hw) (rd_cons (rd_all (rd_L 7 rfl hw) (.tail _ (.tail _ (mem_flatR (chE_mem hix n21a) _ (elRA _))))) (rd_cons (rd_all (rd_L 7 rfl hw) (.tail _ (.tail _ (mem_flatR (chE_mem hix n21a) _ (elRB _))))) rd_nil))))))) ?_
  refine wl_as (t := 108) (.bool true) rfl (congrArg Value.bool (by simp)) ?_
  refine o_y (y_pick_t rfl rfl) rfl rfl ?_
  refine o_y (y_move rfl) rfl rfl ?_
  refine wl_gyes rfl rfl ?_
  refine o_y (y_loadrs 4 ty_52 rfl rfl rfl rfl) rfl rfl ?_
  refine wl_gyes rfl rfl ?_
  refine o_y (y_loadrs 3 ty_52 rfl rfl rfl rfl) rfl rfl ?_
  refine wl_gyes rfl rfl ?_
  refine o_callq rfl ent_52 rfl (c_chase_Same (chN ix.hm n21a) _ _ (chS ix.hm n21a) (chE ix.hm n21a) (chN ix.hm n21c) _ _ (chS ix.hm n21c) (chE ix.hm n21c) (by have := ch_len ix.hm n21a; omega) (by have := (ix_bnd hix (bare_tb fit3.b2) (chE_mem hix n21a)).la; omega) (by have := (ix_bnd hix (bare_tb fit3.b2) (chE_mem hix n21a)).lp; omega)) (fun w hw => (rd_cons (rd_Ls 6 rfl hw) (rd_cons (rd_all (rd_L 7 rfl hw) (.tail _ (.tail _ (mem_flatR (chE_mem hix n21a) _ (elRA _))))) (rd_cons (rd_all (rd_L 7 rfl hw) (.tail _ (.tail _ (mem_flatR (chE_mem hix n21a) _ (elRB _))))) (rd_cons (rd_Ls 5 rfl hw) (rd_cons (rd_all (rd_L 7 rfl hw) (.tail _ (.tail _ (mem_flatR (chE_mem hix n21c) _ (elRA _))))) (rd_cons (rd_all (rd_L 7 rfl hw) (.tail _ (.tail _ (mem_flatR (chE_mem hix n21c) _ (elRB _))))) rd_nil))))))) ?_
  refine wl_as (t := 113) (.bool false) rfl (congrArg Value.bool (by rw [decide_eq_false (show ¬ chS ix.hm n21a = chS ix.hm n21c by rw [chS_E hix, chS_E hix]; decide +kernel)]; rfl)) ?_
  refine wl_gyes rfl rfl ?_
  refine o_y (y_not rfl) rfl rfl ?_
  refine o_y (y_pick_t rfl rfl) rfl rfl ?_
  refine o_y (y_move rfl) rfl rfl ?_
  refine wl_gyes rfl rfl ?_
  refine o_y (y_move rfl) rfl rfl ?_
  refine wl_gyes rfl rfl ?_
  refine o_callr1 rfl ent_26 rfl (c_Follow_nil n21a) (fun w hw => rd_nil) (fun ⟨A13, c13⟩ => ?_)
  refine wl_gyes rfl rfl ?_
  refine o_y (y_fieldv (v := .int .i64 0) rfl (fun w => by kernel_rfl)) rfl rfl ?_
  refine wl_gyes rfl rfl ?_
  refine o_y (y_eql rfl rfl) rfl rfl ?_
  refine wl_at (t := 120) rfl rfl ?_
  refine o_y (y_pick_t rfl rfl) rfl rfl ?_
  refine o_y (y_move rfl) rfl rfl ?_
  refine o_y (y_pick_t rfl rfl) rfl rfl ?_
  refine o_y (y_assign rfl) rfl rfl ?_
  refine wl_nil ?_
  refine e_seq ?_
  refine w_ret ?_
  refine e_ret (ts := [0]) rfl rfl rfl (fun w hw => ?_)
  exact ⟨rfl, hw.base⟩
end Go.Proofs.Ytckfjfnkombelaa
