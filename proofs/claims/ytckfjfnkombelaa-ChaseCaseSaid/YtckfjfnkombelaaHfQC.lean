/- the law of letters of chains -/
import Derived.Test.YtckfjfnkombelaaHcQC
namespace Go.Proofs.Ytckfjfnkombelaa
open Go.RowKit Go.Shelf
set_option linter.unusedVariables false
set_option linter.unusedSimpArgs false

theorem ent_23 : Enters Try.prog 23 := enters_of Try.func23 (by kernel_rfl) rfl
theorem ent_29 : Enters Try.prog 29 := enters_of Try.func29 (by kernel_rfl) rfl
theorem ent_37 : Enters Try.prog 37 := enters_of Try.func37 (by kernel_rfl) rfl
theorem ent_39 : Enters Try.prog 39 := enters_of Try.func39 (by kernel_rfl) rfl
theorem ent_40 : Enters Try.prog 40 := enters_of Try.func40 (by kernel_rfl) rfl

theorem hop_at {m : List (Str × Le)} {n : Str} {k : Nat} (h : k < (hopsI m (chN m n)).length) : (hopsI m (chN m n)).getD k rc0 = hopR m ((chN m n).getD k [], (chN m n).getD (k + 1) []) := by
  have hl := hops_chain_len m n
  have h1 := pairs_get (chN m n) k (by omega)
  rw [hops_chain, List.getD_eq_getElem?_getD, List.getElem?_map, h1]; rfl
theorem fold_getD {m : List (Str × Le)} {n : Str} (h : nameCk n = 0) (i : Nat) : (chN m (foldN n)).getD (i + 1) [] = (chN m n).getD (i + 1) [] := by
  have h1 := congrArg (fun q : List Str => q[i]?) (chain_fold (m := m) h).1
  simp only [List.getElem?_drop, Nat.add_comm 1 i] at h1
  rw [List.getD_eq_getElem?_getD, List.getD_eq_getElem?_getD, h1]
theorem hop_same {m : List (Str × Le)} {n : Str} (h : nameCk n = 0) {k : Nat} (h0 : 0 < k) (h1 : k < (hopsI m (chN m n)).length) (h2 : k < (hopsI m (chN m (foldN n))).length) : (hopsI m (chN m n)).getD k rc0 = (hopsI m (chN m (foldN n))).getD k rc0 := by
  obtain ⟨i, rfl⟩ : ∃ i, k = i + 1 := ⟨k - 1, by omega⟩
  rw [hop_at h1, hop_at h2, fold_getD h, fold_getD h]
theorem hop_name {m : List (Str × Le)} {n : Str} (h : nameCk n = 0) {k : Nat} (h1 : k < (hopsI m (chN m n)).length) (h2 : k < (hopsI m (chN m (foldN n))).length) : ((hopsI m (chN m n)).getD k rc0).dt.name = ((hopsI m (chN m (foldN n))).getD k rc0).dt.name := by
  rw [hop_at h1, hop_at h2]
  exact (fold_getD h k).symm
theorem fold_st {m : List (Str × Le)} {n : Str} (h : nameCk n = 0) : chS m n = chS m (foldN n) := by rw [chS, chS, (chain_fold h).2.2, chain_fold_len h]
theorem fold_last {m : List (Str × Le)} {n : Str} (h : nameCk n = 0) (h2 : ¬ ((chN m n).length : Int) < 2) : (chN m n).getD ((chN m n).length - 1) [] = (chN m (foldN n)).getD ((chN m (foldN n)).length - 1) [] := by
  rw [ch_last, ch_last]
  rcases (chain_fold (m := m) h).2.1 with q | q
  · omega
  · exact q.2.symm

set_option maxRecDepth 100000 in
set_option maxHeartbeats 4000000 in
theorem c_ChaseCase (v : Int) (l : List Le) (F : Option Addr) (d : Nat) (n : Str) (hnl : n.length ≤ 9223372036854775807) (hen : ∀ x ∈ l, EnOk x.e) (hll : l.length ≤ 9223372036854775807) : RC Try.prog 8 #[.agg (tbC v F l.length d).toArray, .string (ba n)] [Ch.rd F 7 elC l, Ch.rall (l.flatMap elR)] (α := Unit) (fun _ => .bool true) (fun _ => []) := by
  refine rc_of_W (args := [.agg (tbC v F l.length d).toArray, .string (ba n)]) 127 Try.func8 rfl rfl rfl (fun w0 => ?_)
  rcases Decidable.em (tabCk v l = 0) with hT | hT
  · skip
    refine w_seq ?_
    refine w_region ?_
    refine o_box rfl rfl rfl (fun b1 => ?_)
    refine o_y (y_assign rfl) rfl rfl ?_
    refine wl_nil ?_
    refine e_seq ?_
    refine w_seq ?_
    refine w_seq ?_
    refine w_region ?_
    refine o_callp rfl ent_23 c_lives21 rfl ?_
    refine wl_as (t := 12) (.bool true) rfl (congrArg Value.bool rfl) ?_
    refine o_y (y_not rfl) rfl rfl ?_
    refine wl_nil ?_
    refine e_seq ?_
    refine w_cond_f rfl ?_
    refine w_skip ?_
    refine e_seq ?_
    refine w_seq ?_
    refine w_seq ?_
    refine w_region ?_
    refine o_y (y_field fa_41_1 rfl) rfl rfl ?_
    refine o_y (y_loadr 0 ty_39 rfl rfl rfl) rfl rfl ?_
    refine o_callq rfl ent_24 rfl (c_LightEntries _ _ _ _ (by omega)) (fun w hw => (rd_cons (rd_S 0 rfl hw) rd_nil)) ?_
    refine wl_splitb (t := 16) rfl (fun h3_2 => ?_) (fun h3_2 => ?_)
    · skip
      have hle9 := lightEs_le h3_2
      have hok : TbOk l := fun x hx => ⟨hen x hx, hle9.1 x hx⟩
      have hl9 := hle9.2
      refine o_y (y_not rfl) rfl rfl ?_
      refine o_y (y_move rfl) rfl rfl ?_
      refine wl_gyes rfl rfl ?_
      refine o_y (y_move rfl) rfl rfl ?_
      refine wl_gyes rfl rfl ?_
      refine o_callp rfl ent_17 (c_ref02_Check _) rfl ?_
      refine wl_gyes rfl rfl ?_
      refine o_y (y_neq rfl rfl) rfl rfl ?_
      refine wl_splitp (t := 21) rfl (fun h3_7 => ?_) (fun h3_7 => ?_)
      · skip
        refine o_y (y_pick_f rfl rfl) rfl rfl ?_
        refine wl_nil ?_
        refine e_seq ?_
        refine w_cond_t rfl ?_
        refine w_seq ?_
        refine w_region ?_
        refine o_y (y_assign rfl) rfl rfl ?_
        refine wl_nil ?_
        refine e_seq ?_
        refine w_ret ?_
        refine e_seq_ret ?_
        refine e_ret (ts := [4]) rfl rfl rfl (fun w hw => ?_)
        exact ⟨(), rfl, hw.base, (hw.weak (List.nil_sublist _) (fun s hs => hs)).toNews⟩
      · skip
        have hn0 : nameCk n = 0 := by omega
        have hnl2 := (nameCk_zero.1 hn0).1
        refine o_y (y_pick_f rfl rfl) rfl rfl ?_
        refine wl_nil ?_
        refine e_seq ?_
        refine w_cond_f rfl ?_
        refine w_skip ?_
        refine e_seq ?_
        refine w_seq ?_
        refine w_region ?_
        refine o_y (y_loadrs 0 ty_41 rfl rfl rfl rfl) rfl rfl ?_
        refine o_callr1 rfl ent_25 rfl (c_index_New0 v l F d hok (by omega) hT) (fun w hw => (rd_cons (rd_S 0 rfl hw) (rd_cons (rd_S 1 rfl hw) rd_nil))) (fun ⟨ix, hix⟩ => ?_)
        refine wl_heap (fun w h => h.ixOpen) ?_
        refine o_y (y_move rfl) rfl rfl ?_
        refine o_y (y_extract rfl rfl) rfl rfl ?_
        refine o_y (y_extract rfl rfl) rfl rfl ?_
        refine o_y (y_assign rfl) rfl rfl ?_
        refine o_y (y_assign rfl) rfl rfl ?_
        refine wl_nil ?_
        refine e_seq ?_
        refine w_seq ?_
        refine w_seq ?_
        refine w_region ?_
        refine o_y (y_move rfl) rfl rfl ?_
        refine o_y (y_neq rfl rfl) rfl rfl ?_
        refine wl_af (t := 29) rfl (fun h9 => h9 rfl) ?_
        refine wl_nil ?_
        refine e_seq ?_
        refine w_cond_f rfl ?_
        refine w_skip ?_
        refine e_seq ?_
        refine w_seq ?_
        refine w_region ?_
        refine o_y (y_move rfl) rfl rfl ?_
        refine o_y (y_move rfl) rfl rfl ?_
        refine o_callr1 rfl ent_26 rfl (c_Follow ix n) (fun w hw => (rd_cons (rd_all (rd_L 0 rfl hw) (.head _)) (rd_cons (rd_all (rd_L 0 rfl hw) (.tail _ (.head _))) rd_nil))) (fun ⟨A2, c2⟩ => ?_)
        refine o_y (y_move rfl) rfl rfl ?_
        refine o_y (y_move rfl) rfl rfl ?_
        refine o_callp rfl ent_22 (p_ref02_Fold _ (by omega)) rfl ?_
        refine o_callr1 rfl ent_26 rfl (c_Follow ix (foldN n)) (fun w hw => (rd_cons (rd_all (rd_L 1 rfl hw) (.head _)) (rd_cons (rd_all (rd_L 1 rfl hw) (.tail _ (.head _))) rd_nil))) (fun ⟨A3, c3⟩ => ?_)
        refine o_alloc ty_52 rfl rfl (fun b5 => ?_)
        refine o_alloc ty_52 rfl rfl (fun b6 => ?_)
        refine o_store ty_52 rfl rfl rfl (.s (.z)) rfl rfl rfl rfl ?_
        refine o_store ty_52 rfl rfl rfl .z rfl rfl rfl rfl ?_
        refine wl_nil ?_
        refine e_seq ?_
        refine w_seq ?_
        refine w_seq ?_
        have hcl := ch_len ix.hm n
        have hcf := ch_len ix.hm (foldN n)
        have hhl := hops_chain_len ix.hm n
        have hhf := hops_chain_len ix.hm (foldN n)
        have hcc := chain_fold_len (m := ix.hm) hn0
        refine w_region ?_
        refine o_y (y_field fa_52_0 rfl) rfl rfl ?_
        refine o_y (y_loadr 1 ty_22 rfl rfl rfl) rfl rfl ?_
        refine o_y (y_lenl Try.underlying22 rfl) rfl rfl ?_
        refine o_y (y_lss rfl rfl) rfl rfl ?_
        refine wl_af (t := 40) rfl (by omega) ?_
        refine o_y (y_move rfl) rfl rfl ?_
        refine wl_gyes rfl rfl ?_
        refine o_y (y_field fa_52_0 rfl) rfl rfl ?_
        refine wl_gyes rfl rfl ?_
        refine o_y (y_loadr 0 ty_22 rfl rfl rfl) rfl rfl ?_
        refine wl_gyes rfl rfl ?_
        refine o_y (y_lenl Try.underlying22 rfl) rfl rfl ?_
        refine wl_gyes rfl rfl ?_
        refine o_y (y_lss rfl rfl) rfl rfl ?_
        refine wl_af (t := 45) rfl (by omega) ?_
        refine o_y (y_pick_f rfl rfl) rfl rfl ?_
        refine wl_nil ?_
        refine e_seq ?_
        refine w_cond_f rfl ?_
        refine w_skip ?_
        refine e_seq ?_
        refine w_seq ?_
        refine w_draw 8 rfl mixed ?_
        refine a_take (i := 0) rfl wanted_none (y_move rfl) (fun w h => h) (fun w h => h) rfl (pk_seq pk_fn) (by kernel_rfl) rfl ?_
        refine a_take (i := 1) rfl wanted_none (y_loadrs 1 ty_52 rfl rfl rfl rfl) (fun w h => h) (fun w h => h) rfl (pk_seq pk_fn) (by kernel_rfl) rfl ?_
        refine a_take (i := 3) rfl wanted_none (y_move rfl) (fun w h => h) (fun w h => h) rfl (pk_seq pk_fn) (by kernel_rfl) rfl ?_
        refine a_take (i := 4) rfl wanted_none (y_loadrs 0 ty_52 rfl rfl rfl rfl) (fun w h => h) (fun w h => h) rfl (pk_seq pk_fn) (by kernel_rfl) rfl ?_
        refine a_one (i := 2) rfl rfl rfl (tame_call rfl ent_37) (by kernel_rfl) rfl ?_
        refine o_callr1 rfl ent_37 rfl (c_Hops ix (chN ix.hm n) _ _ _ _ (by omega)) (fun w hw => (rd_cons (rd_all (rd_L 4 rfl hw) (.head _)) (rd_cons (rd_all (rd_L 4 rfl hw) (.tail _ (.head _))) (rd_cons (rd_Ls 3 rfl hw) rd_nil)))) (fun ⟨A6, c6⟩ => ?_)
        refine wl_nil ?_
        refine e_one (fun w h => h.weak (.cons _ (List.Sublist.refl _)) (fun s hs => hs)) ?_
        refine a_one (i := 5) rfl rfl rfl (tame_call rfl ent_37) (by kernel_rfl) rfl ?_
        refine o_callr1 rfl ent_37 rfl (c_Hops ix (chN ix.hm (foldN n)) _ _ _ _ (by omega)) (fun w hw => (rd_cons (rd_all (rd_L 5 rfl hw) (.head _)) (rd_cons (rd_all (rd_L 5 rfl hw) (.tail _ (.head _))) (rd_cons (rd_Ls 3 rfl hw) rd_nil)))) (fun ⟨A7, c7⟩ => ?_)
        refine wl_nil ?_
        refine e_one (fun w h => h.weak (.cons _ (.cons _ (List.Sublist.refl _))) (fun s hs => hs)) ?_
        refine a_take (i := 6) rfl wanted_none (y_assign rfl) (fun w h => h.weak (.cons _ (.cons _ (List.Sublist.refl _))) (fun s hs => hs)) (fun w h => h) rfl (pk_seq pk_fn) (by kernel_rfl) rfl ?_
        refine a_take (i := 7) rfl wanted_none (y_assign rfl) (fun w h => h.weak (.cons _ (.cons _ (List.Sublist.refl _))) (fun s hs => hs)) (fun w h => h) rfl (pk_seq pk_fn) (by kernel_rfl) rfl ?_
        refine a_done (by kernel_rfl) ?_
        refine e_seq ?_
        refine w_seq ?_
        refine w_seq ?_
        refine w_region ?_
        refine o_y (y_move rfl) rfl rfl ?_
        refine o_y (y_lenl Try.underlying71 rfl) rfl rfl ?_
        refine o_y (y_move rfl) rfl rfl ?_
        refine o_y (y_lenl Try.underlying71 rfl) rfl rfl ?_
        refine o_y (y_neq rfl rfl) rfl rfl ?_
        refine wl_af (t := 57) rfl (by omega) ?_
        refine wl_nil ?_
        refine e_seq ?_
        refine w_cond_f rfl ?_
        refine w_skip ?_
        refine e_seq ?_
        refine w_seq ?_
        refine w_seq ?_
        refine w_region ?_
        refine o_y (y_assign rfl) rfl rfl ?_
        refine wl_nil ?_
        refine e_seq ?_
        refine w_block ?_
        refine w_loop0 (σ := Nat) [4, 11, 58, 59, 60, 61, 62, 63, 64, 65, 66, 67, 68, 69, 70, 71, 72, 73, 74, 75, 76, 77, 78, 79, 80, 81, 82, 83, 84, 85, 86, 87, 88, 89, 90, 91, 92] (fun k => k ≤ (hopsI ix.hm (chN ix.hm n)).length) (fun k => (hopsI ix.hm (chN ix.hm n)).length - k) (fun k => [(11, .int .i64 k)]) (0) ?_ ⟨rfl, trivial⟩ (fun k hI => ?_)
        · exact Nat.zero_le _
        refine w_seq ?_
        refine w_seq ?_
        refine w_region ?_
        refine o_y (y_move rfl) rfl rfl ?_
        refine o_y (y_move rfl) rfl rfl ?_
        refine o_y (y_lenl Try.underlying71 rfl) rfl rfl ?_
        refine o_y (y_lss rfl rfl) rfl rfl ?_
        refine wl_splitp (t := 61) rfl (fun h15_3 => ?_) (fun h15_3 => ?_)
        · skip
          refine wl_nil ?_
          refine e_seq ?_
          refine w_cond_t rfl ?_
          refine w_skip ?_
          refine e_seq ?_
          refine w_seq ?_
          refine w_block ?_
          refine w_seq ?_
          have hk1 : k < (hopsI ix.hm (chN ix.hm n)).length := by omega
          have hk2 : k < (hopsI ix.hm (chN ix.hm (foldN n))).length := by omega
          refine w_draw 29 rfl mixed ?_
          refine a_take (i := 0) rfl wanted_none (y_move rfl) (fun w h => h) (fun w h => h) rfl (pk_seq (pk_blk (pk_seq (pk_loop (pk_blk (pk_seq pk_fn)))))) (by kernel_rfl) rfl ?_
          refine a_take (i := 1) rfl wanted_none (y_gtr rfl rfl) (fun w h => h) (fun w h => h) rfl (pk_seq (pk_blk (pk_seq (pk_loop (pk_blk (pk_seq pk_fn)))))) (by kernel_rfl) rfl ?_
          refine wa_splitp (t := 65) rfl (fun h17_1 => ?_) (fun h17_1 => ?_)
          · skip
            refine a_take (i := 2) rfl wanted_none (y_move rfl) (fun w h => h) (fun w h => h) rfl (pk_seq (pk_blk (pk_seq (pk_loop (pk_blk (pk_seq pk_fn)))))) (by kernel_rfl) rfl ?_
            refine a_take (i := 3) rfl (wanted_yes rfl rfl) (y_move rfl) (fun w h => h) (fun w h => h) rfl (pk_seq (pk_blk (pk_seq (pk_loop (pk_blk (pk_seq pk_fn)))))) (by kernel_rfl) rfl ?_
            refine a_take (i := 4) rfl (wanted_yes rfl rfl) (y_move rfl) (fun w h => h) (fun w h => h) rfl (pk_seq (pk_blk (pk_seq (pk_loop (pk_blk (pk_seq pk_fn)))))) (by kernel_rfl) rfl ?_
            refine a_take (i := 5) rfl (wanted_yes rfl rfl) (y_ixm  Try.underlying71 ty_80 rfl rfl (rs_L 1 rfl) rfl (by omega)) (fun w h => h) (fun w h => h) rfl (pk_seq (pk_blk (pk_seq (pk_loop (pk_blk (pk_seq pk_fn)))))) (by kernel_rfl) rfl ?_
            refine a_take (i := 6) rfl (wanted_yes rfl rfl) (y_ldsm0 enc_rc rc0 ty_80 rfl (rs_L 1 rfl) (by omega) rfl rfl rfl) (fun w h => h) (fun w h => h) rfl (pk_seq (pk_blk (pk_seq (pk_loop (pk_blk (pk_seq pk_fn)))))) (by kernel_rfl) rfl ?_
            refine a_take (i := 7) rfl (wanted_yes rfl rfl) (y_move rfl) (fun w h => h) (fun w h => h) rfl (pk_seq (pk_blk (pk_seq (pk_loop (pk_blk (pk_seq pk_fn)))))) (by kernel_rfl) rfl ?_
            refine a_take (i := 8) rfl (wanted_yes rfl rfl) (y_move rfl) (fun w h => h) (fun w h => h) rfl (pk_seq (pk_blk (pk_seq (pk_loop (pk_blk (pk_seq pk_fn)))))) (by kernel_rfl) rfl ?_
            refine a_take (i := 9) rfl (wanted_yes rfl rfl) (y_ixm  Try.underlying71 ty_80 rfl rfl (rs_L 0 rfl) rfl (by omega)) (fun w h => h) (fun w h => h) rfl (pk_seq (pk_blk (pk_seq (pk_loop (pk_blk (pk_seq pk_fn)))))) (by kernel_rfl) rfl ?_
            refine a_take (i := 10) rfl (wanted_yes rfl rfl) (y_ldsm0 enc_rc rc0 ty_80 rfl (rs_L 0 rfl) (by omega) rfl rfl rfl) (fun w h => h) (fun w h => h) rfl (pk_seq (pk_blk (pk_seq (pk_loop (pk_blk (pk_seq pk_fn)))))) (by kernel_rfl) rfl ?_
            refine a_one (i := 11) rfl rfl rfl (tame_call rfl ent_40) (by kernel_rfl) rfl ?_
            refine wl_gyes rfl rfl ?_
            refine o_callp rfl ent_40 (c_ref10_Same _ _) rfl ?_
            refine wl_nil ?_
            refine e_one (fun w h => h) ?_
            refine wa_as (t := 75) (.bool true) rfl (congrArg Value.bool (decide_eq_true (hop_same hn0 (by omega) hk1 hk2))) ?_
            refine a_take (i := 12) rfl (wanted_yes rfl rfl) (y_not rfl) (fun w h => h) (fun w h => h) rfl (pk_seq (pk_blk (pk_seq (pk_loop (pk_blk (pk_seq pk_fn)))))) (by kernel_rfl) rfl ?_
            refine a_take (i := 13) rfl wanted_none (y_pick_t rfl rfl) (fun w h => h) (fun w h => h) rfl (pk_seq (pk_blk (pk_seq (pk_loop (pk_blk (pk_seq pk_fn)))))) (by kernel_rfl) rfl ?_
            refine a_take (i := 14) rfl wanted_none (y_move rfl) (fun w h => h) (fun w h => h) rfl (pk_seq (pk_blk (pk_seq (pk_loop (pk_blk (pk_seq pk_fn)))))) (by kernel_rfl) rfl ?_
            refine a_take (i := 15) rfl (wanted_yes rfl rfl) (y_move rfl) (fun w h => h) (fun w h => h) rfl (pk_seq (pk_blk (pk_seq (pk_loop (pk_blk (pk_seq pk_fn)))))) (by kernel_rfl) rfl ?_
            refine a_take (i := 16) rfl (wanted_yes rfl rfl) (y_move rfl) (fun w h => h) (fun w h => h) rfl (pk_seq (pk_blk (pk_seq (pk_loop (pk_blk (pk_seq pk_fn)))))) (by kernel_rfl) rfl ?_
            refine a_take (i := 17) rfl (wanted_yes rfl rfl) (y_ixm  Try.underlying71 ty_80 rfl rfl (rs_L 1 rfl) rfl (by omega)) (fun w h => h) (fun w h => h) rfl (pk_seq (pk_blk (pk_seq (pk_loop (pk_blk (pk_seq pk_fn)))))) (by kernel_rfl) rfl ?_
            refine a_take (i := 18) rfl (wanted_yes rfl rfl) (y_field fa_80_4 rfl) (fun w h => h) (fun w h => h) rfl (pk_seq (pk_blk (pk_seq (pk_loop (pk_blk (pk_seq pk_fn)))))) (by kernel_rfl) rfl ?_
            refine a_take (i := 19) rfl (wanted_yes rfl rfl) (y_field fa_78_1 rfl) (fun w h => h) (fun w h => h) rfl (pk_seq (pk_blk (pk_seq (pk_loop (pk_blk (pk_seq pk_fn)))))) (by kernel_rfl) rfl ?_
            refine a_take (i := 20) rfl (wanted_yes rfl rfl) (y_ldm 7 enc_rc rc0 ty_25 rfl (rs_L 1 rfl) (by omega) rfl rfl) (fun w h => h) (fun w h => h) rfl (pk_seq (pk_blk (pk_seq (pk_loop (pk_blk (pk_seq pk_fn)))))) (by kernel_rfl) rfl ?_
            refine a_take (i := 21) rfl (wanted_yes rfl rfl) (y_move rfl) (fun w h => h) (fun w h => h) rfl (pk_seq (pk_blk (pk_seq (pk_loop (pk_blk (pk_seq pk_fn)))))) (by kernel_rfl) rfl ?_
            refine a_take (i := 22) rfl (wanted_yes rfl rfl) (y_move rfl) (fun w h => h) (fun w h => h) rfl (pk_seq (pk_blk (pk_seq (pk_loop (pk_blk (pk_seq pk_fn)))))) (by kernel_rfl) rfl ?_
            refine a_take (i := 23) rfl (wanted_yes rfl rfl) (y_ixm  Try.underlying71 ty_80 rfl rfl (rs_L 0 rfl) rfl (by omega)) (fun w h => h) (fun w h => h) rfl (pk_seq (pk_blk (pk_seq (pk_loop (pk_blk (pk_seq pk_fn)))))) (by kernel_rfl) rfl ?_
            refine a_take (i := 24) rfl (wanted_yes rfl rfl) (y_field fa_80_4 rfl) (fun w h => h) (fun w h => h) rfl (pk_seq (pk_blk (pk_seq (pk_loop (pk_blk (pk_seq pk_fn)))))) (by kernel_rfl) rfl ?_
            refine a_take (i := 25) rfl (wanted_yes rfl rfl) (y_field fa_78_1 rfl) (fun w h => h) (fun w h => h) rfl (pk_seq (pk_blk (pk_seq (pk_loop (pk_blk (pk_seq pk_fn)))))) (by kernel_rfl) rfl ?_
            refine a_take (i := 26) rfl (wanted_yes rfl rfl) (y_ldm 7 enc_rc rc0 ty_25 rfl (rs_L 0 rfl) (by omega) rfl rfl) (fun w h => h) (fun w h => h) rfl (pk_seq (pk_blk (pk_seq (pk_loop (pk_blk (pk_seq pk_fn)))))) (by kernel_rfl) rfl ?_
            refine a_take (i := 27) rfl (wanted_yes rfl rfl) (y_neqs rfl rfl) (fun w h => h) (fun w h => h) rfl (pk_seq (pk_blk (pk_seq (pk_loop (pk_blk (pk_seq pk_fn)))))) (by kernel_rfl) rfl ?_
            refine wa_af (t := 91) rfl (fun h => h (hop_name hn0 hk1 hk2)) ?_
            refine a_take (i := 28) rfl wanted_none (y_pick_f rfl rfl) (fun w h => h) (fun w h => h) rfl (pk_seq (pk_blk (pk_seq (pk_loop (pk_blk (pk_seq pk_fn)))))) (by kernel_rfl) rfl ?_
            refine a_done (by kernel_rfl) ?_
            refine e_seq ?_
            refine w_cond_f rfl ?_
            refine w_skip ?_
            refine e_blk ?_
            refine e_seq ?_
            refine w_region ?_
            refine o_y (y_move rfl) rfl rfl ?_
            refine o_y (y_addi rfl rfl (by omega) (by omega)) rfl rfl ?_
            refine o_y (y_assign rfl) rfl rfl ?_
            refine wl_nil ?_
            refine e_back (k + 1) ?_ ?_ ⟨rfl, trivial⟩ (by repeat (first | exact trivial | refine ⟨rfl, ?_⟩)) (fun w h => h)
            · omega
            · omega
          · skip
            refine a_take (i := 2) rfl wanted_none (y_move rfl) (fun w h => h) (fun w h => h) rfl (pk_seq (pk_blk (pk_seq (pk_loop (pk_blk (pk_seq pk_fn)))))) (by kernel_rfl) rfl ?_
            refine a_skip (i := 3) rfl (wanted_no rfl rfl rfl) (fun w h => h) rfl (pk_seq (pk_blk (pk_seq (pk_loop (pk_blk (pk_seq pk_fn)))))) (by kernel_rfl) rfl ?_
            refine a_skip (i := 4) rfl (wanted_no rfl rfl rfl) (fun w h => h) rfl (pk_seq (pk_blk (pk_seq (pk_loop (pk_blk (pk_seq pk_fn)))))) (by kernel_rfl) rfl ?_
            refine a_skip (i := 5) rfl (wanted_no rfl rfl rfl) (fun w h => h) rfl (pk_seq (pk_blk (pk_seq (pk_loop (pk_blk (pk_seq pk_fn)))))) (by kernel_rfl) rfl ?_
            refine a_skip (i := 6) rfl (wanted_no rfl rfl rfl) (fun w h => h) rfl (pk_seq (pk_blk (pk_seq (pk_loop (pk_blk (pk_seq pk_fn)))))) (by kernel_rfl) rfl ?_
            refine a_skip (i := 7) rfl (wanted_no rfl rfl rfl) (fun w h => h) rfl (pk_seq (pk_blk (pk_seq (pk_loop (pk_blk (pk_seq pk_fn)))))) (by kernel_rfl) rfl ?_
            refine a_skip (i := 8) rfl (wanted_no rfl rfl rfl) (fun w h => h) rfl (pk_seq (pk_blk (pk_seq (pk_loop (pk_blk (pk_seq pk_fn)))))) (by kernel_rfl) rfl ?_
            refine a_skip (i := 9) rfl (wanted_no rfl rfl rfl) (fun w h => h) rfl (pk_seq (pk_blk (pk_seq (pk_loop (pk_blk (pk_seq pk_fn)))))) (by kernel_rfl) rfl ?_
            refine a_skip (i := 10) rfl (wanted_no rfl rfl rfl) (fun w h => h) rfl (pk_seq (pk_blk (pk_seq (pk_loop (pk_blk (pk_seq pk_fn)))))) (by kernel_rfl) rfl ?_
            refine a_skip (i := 11) rfl (wanted_no rfl rfl rfl) (fun w h => h) rfl (pk_seq (pk_blk (pk_seq (pk_loop (pk_blk (pk_seq pk_fn)))))) (by kernel_rfl) rfl ?_
            refine a_skip (i := 12) rfl (wanted_no rfl rfl rfl) (fun w h => h) rfl (pk_seq (pk_blk (pk_seq (pk_loop (pk_blk (pk_seq pk_fn)))))) (by kernel_rfl) rfl ?_
            refine a_take (i := 13) rfl wanted_none (y_pick_f rfl rfl) (fun w h => h) (fun w h => h) rfl (pk_seq (pk_blk (pk_seq (pk_loop (pk_blk (pk_seq pk_fn)))))) (by kernel_rfl) rfl ?_
            refine a_take (i := 14) rfl wanted_none (y_move rfl) (fun w h => h) (fun w h => h) rfl (pk_seq (pk_blk (pk_seq (pk_loop (pk_blk (pk_seq pk_fn)))))) (by kernel_rfl) rfl ?_
            refine a_take (i := 15) rfl (wanted_yes rfl rfl) (y_move rfl) (fun w h => h) (fun w h => h) rfl (pk_seq (pk_blk (pk_seq (pk_loop (pk_blk (pk_seq pk_fn)))))) (by kernel_rfl) rfl ?_
            refine a_take (i := 16) rfl (wanted_yes rfl rfl) (y_move rfl) (fun w h => h) (fun w h => h) rfl (pk_seq (pk_blk (pk_seq (pk_loop (pk_blk (pk_seq pk_fn)))))) (by kernel_rfl) rfl ?_
            refine a_take (i := 17) rfl (wanted_yes rfl rfl) (y_ixm  Try.underlying71 ty_80 rfl rfl (rs_L 1 rfl) rfl (by omega)) (fun w h => h) (fun w h => h) rfl (pk_seq (pk_blk (pk_seq (pk_loop (pk_blk (pk_seq pk_fn)))))) (by kernel_rfl) rfl ?_
            refine a_take (i := 18) rfl (wanted_yes rfl rfl) (y_field fa_80_4 rfl) (fun w h => h) (fun w h => h) rfl (pk_seq (pk_blk (pk_seq (pk_loop (pk_blk (pk_seq pk_fn)))))) (by kernel_rfl) rfl ?_
            refine a_take (i := 19) rfl (wanted_yes rfl rfl) (y_field fa_78_1 rfl) (fun w h => h) (fun w h => h) rfl (pk_seq (pk_blk (pk_seq (pk_loop (pk_blk (pk_seq pk_fn)))))) (by kernel_rfl) rfl ?_
            refine a_take (i := 20) rfl (wanted_yes rfl rfl) (y_ldm 7 enc_rc rc0 ty_25 rfl (rs_L 1 rfl) (by omega) rfl rfl) (fun w h => h) (fun w h => h) rfl (pk_seq (pk_blk (pk_seq (pk_loop (pk_blk (pk_seq pk_fn)))))) (by kernel_rfl) rfl ?_
            refine a_take (i := 21) rfl (wanted_yes rfl rfl) (y_move rfl) (fun w h => h) (fun w h => h) rfl (pk_seq (pk_blk (pk_seq (pk_loop (pk_blk (pk_seq pk_fn)))))) (by kernel_rfl) rfl ?_
            refine a_take (i := 22) rfl (wanted_yes rfl rfl) (y_move rfl) (fun w h => h) (fun w h => h) rfl (pk_seq (pk_blk (pk_seq (pk_loop (pk_blk (pk_seq pk_fn)))))) (by kernel_rfl) rfl ?_
            refine a_take (i := 23) rfl (wanted_yes rfl rfl) (y_ixm  Try.underlying71 ty_80 rfl rfl (rs_L 0 rfl) rfl (by omega)) (fun w h => h) (fun w h => h) rfl (pk_seq (pk_blk (pk_seq (pk_loop (pk_blk (pk_seq pk_fn)))))) (by kernel_rfl) rfl ?_
            refine a_take (i := 24) rfl (wanted_yes rfl rfl) (y_field fa_80_4 rfl) (fun w h => h) (fun w h => h) rfl (pk_seq (pk_blk (pk_seq (pk_loop (pk_blk (pk_seq pk_fn)))))) (by kernel_rfl) rfl ?_
            refine a_take (i := 25) rfl (wanted_yes rfl rfl) (y_field fa_78_1 rfl) (fun w h => h) (fun w h => h) rfl (pk_seq (pk_blk (pk_seq (pk_loop (pk_blk (pk_seq pk_fn)))))) (by kernel_rfl) rfl ?_
            refine a_take (i := 26) rfl (wanted_yes rfl rfl) (y_ldm 7 enc_rc rc0 ty_25 rfl (rs_L 0 rfl) (by omega) rfl rfl) (fun w h => h) (fun w h => h) rfl (pk_seq (pk_blk (pk_seq (pk_loop (pk_blk (pk_seq pk_fn)))))) (by kernel_rfl) rfl ?_
            refine a_take (i := 27) rfl (wanted_yes rfl rfl) (y_neqs rfl rfl) (fun w h => h) (fun w h => h) rfl (pk_seq (pk_blk (pk_seq (pk_loop (pk_blk (pk_seq pk_fn)))))) (by kernel_rfl) rfl ?_
            refine wa_af (t := 91) rfl (fun h => h (hop_name hn0 hk1 hk2)) ?_
            refine a_take (i := 28) rfl wanted_none (y_pick_f rfl rfl) (fun w h => h) (fun w h => h) rfl (pk_seq (pk_blk (pk_seq (pk_loop (pk_blk (pk_seq pk_fn)))))) (by kernel_rfl) rfl ?_
            refine a_done (by kernel_rfl) ?_
            refine e_seq ?_
            refine w_cond_f rfl ?_
            refine w_skip ?_
            refine e_blk ?_
            refine e_seq ?_
            refine w_region ?_
            refine o_y (y_move rfl) rfl rfl ?_
            refine o_y (y_addi rfl rfl (by omega) (by omega)) rfl rfl ?_
            refine o_y (y_assign rfl) rfl rfl ?_
            refine wl_nil ?_
            refine e_back (k + 1) ?_ ?_ ⟨rfl, trivial⟩ (by repeat (first | exact trivial | refine ⟨rfl, ?_⟩)) (fun w h => h)
            · omega
            · omega
        · skip
          refine wl_nil ?_
          refine e_seq ?_
          refine w_cond_f rfl ?_
          refine w_exit ?_
          refine e_seq_exit ?_
          refine e_loop_exit ?_
          refine e_blk_hit ?_
          refine e_seq ?_
          refine w_seq ?_
          refine w_draw 35 rfl mixed ?_
          refine a_take (i := 0) rfl wanted_none (y_field fa_52_1 rfl) (fun w h => h) (fun w h => h) rfl (pk_seq pk_fn) (by kernel_rfl) rfl ?_
          refine a_take (i := 1) rfl wanted_none (y_loadr 3 ty_3 rfl rfl rfl) (fun w h => h) (fun w h => h) rfl (pk_seq pk_fn) (by kernel_rfl) rfl ?_
          refine a_take (i := 2) rfl wanted_none (y_field fa_52_1 rfl) (fun w h => h) (fun w h => h) rfl (pk_seq pk_fn) (by kernel_rfl) rfl ?_
          refine a_take (i := 3) rfl wanted_none (y_loadr 2 ty_3 rfl rfl rfl) (fun w h => h) (fun w h => h) rfl (pk_seq pk_fn) (by kernel_rfl) rfl ?_
          refine a_take (i := 4) rfl wanted_none (y_eql rfl rfl) (fun w h => h) (fun w h => h) rfl (pk_seq pk_fn) (by kernel_rfl) rfl ?_
          refine wa_at (t := 97) rfl (fold_st hn0) ?_
          refine a_take (i := 5) rfl wanted_none (y_move rfl) (fun w h => h) (fun w h => h) rfl (pk_seq pk_fn) (by kernel_rfl) rfl ?_
          refine a_take (i := 6) rfl (wanted_yes rfl rfl) (y_field fa_52_0 rfl) (fun w h => h) (fun w h => h) rfl (pk_seq pk_fn) (by kernel_rfl) rfl ?_
          refine a_take (i := 7) rfl (wanted_yes rfl rfl) (y_loadr 3 ty_22 rfl rfl rfl) (fun w h => h) (fun w h => h) rfl (pk_seq pk_fn) (by kernel_rfl) rfl ?_
          refine a_take (i := 8) rfl (wanted_yes rfl rfl) (y_drop (m := 1) Try.underlying22 ty_25 rfl rfl rfl (by omega)) (fun w h => h) (fun w h => h) rfl (pk_seq pk_fn) (by kernel_rfl) rfl ?_
          refine a_take (i := 9) rfl (wanted_yes rfl rfl) (y_field fa_52_0 rfl) (fun w h => h) (fun w h => h) rfl (pk_seq pk_fn) (by kernel_rfl) rfl ?_
          refine a_take (i := 10) rfl (wanted_yes rfl rfl) (y_loadr 2 ty_22 rfl rfl rfl) (fun w h => h) (fun w h => h) rfl (pk_seq pk_fn) (by kernel_rfl) rfl ?_
          refine a_take (i := 11) rfl (wanted_yes rfl rfl) (y_drop (m := 1) Try.underlying22 ty_25 rfl rfl rfl (by omega)) (fun w h => h) (fun w h => h) rfl (pk_seq pk_fn) (by kernel_rfl) rfl ?_
          refine a_one (i := 12) rfl rfl rfl (tame_call rfl ent_28) (by kernel_rfl) rfl ?_
          refine wl_gyes rfl rfl ?_
          refine o_callq rfl ent_28 rfl (c_kit_Same_n _ _ _ _ _ _ (by rw [List.length_drop]; omega)) (fun w hw => (rd_cons (rd_dropL enc_s 5 rfl (by omega) hw) (rd_cons (rd_dropL enc_s 4 rfl (by omega) hw) rd_nil))) ?_
          refine wl_nil ?_
          refine e_one (fun w h => h) ?_
          refine wa_as (t := 105) (.bool true) rfl (congrArg Value.bool (decide_eq_true (chain_fold hn0).1.symm)) ?_
          refine a_take (i := 13) rfl wanted_none (y_pick_t rfl rfl) (fun w h => h) (fun w h => h) rfl (pk_seq pk_fn) (by kernel_rfl) rfl ?_
          refine a_take (i := 14) rfl wanted_none (y_move rfl) (fun w h => h) (fun w h => h) rfl (pk_seq pk_fn) (by kernel_rfl) rfl ?_
          refine a_take (i := 15) rfl (wanted_yes rfl rfl) (y_field fa_52_2 rfl) (fun w h => h) (fun w h => h) rfl (pk_seq pk_fn) (by kernel_rfl) rfl ?_
          refine a_take (i := 16) rfl (wanted_yes rfl rfl) (y_loadrs 3 ty_50 rfl rfl rfl rfl) (fun w h => h) (fun w h => h) rfl (pk_seq pk_fn) (by kernel_rfl) rfl ?_
          refine a_take (i := 17) rfl (wanted_yes rfl rfl) (y_field fa_52_2 rfl) (fun w h => h) (fun w h => h) rfl (pk_seq pk_fn) (by kernel_rfl) rfl ?_
          refine a_take (i := 18) rfl (wanted_yes rfl rfl) (y_loadrs 2 ty_50 rfl rfl rfl rfl) (fun w h => h) (fun w h => h) rfl (pk_seq pk_fn) (by kernel_rfl) rfl ?_
          refine a_one (i := 19) rfl rfl rfl (tame_call rfl ent_29) (by kernel_rfl) rfl ?_
          refine wl_gyes rfl rfl ?_
          refine o_callq rfl ent_29 rfl (c_ref16_Same (chE ix.hm n).e (chE ix.hm n).A (chE ix.hm n).B (chE ix.hm n).c (chE ix.hm n).d (chE ix.hm (foldN n)).e (chE ix.hm (foldN n)).A (chE ix.hm (foldN n)).B (chE ix.hm (foldN n)).c (chE ix.hm (foldN n)).d (by have := (ix_bnd hix hok (chE_mem hix n)).la; omega) (by have := (ix_bnd hix hok (chE_mem hix n)).lp; omega)) (fun w hw => (rd_cons (rd_all (rd_L 6 rfl hw) (.tail _ (.tail _ (mem_flatR (chE_mem hix n) _ (elRA _))))) (rd_cons (rd_all (rd_L 6 rfl hw) (.tail _ (.tail _ (mem_flatR (chE_mem hix n) _ (elRB _))))) (rd_cons (rd_all (rd_L 6 rfl hw) (.tail _ (.tail _ (mem_flatR (chE_mem hix (foldN n)) _ (elRA _))))) (rd_cons (rd_all (rd_L 6 rfl hw) (.tail _ (.tail _ (mem_flatR (chE_mem hix (foldN n)) _ (elRB _))))) rd_nil))))) ?_
          refine wl_nil ?_
          refine e_one (fun w h => h) ?_
          refine wa_as (t := 112) (.bool true) rfl (congrArg Value.bool (decide_eq_true (by rw [chE, chE, (chain_fold hn0).2.2]))) ?_
          refine a_take (i := 20) rfl wanted_none (y_pick_t rfl rfl) (fun w h => h) (fun w h => h) rfl (pk_seq pk_fn) (by kernel_rfl) rfl ?_
          refine a_take (i := 21) rfl wanted_none (y_move rfl) (fun w h => h) (fun w h => h) rfl (pk_seq pk_fn) (by kernel_rfl) rfl ?_
          refine a_take (i := 22) rfl (wanted_yes rfl rfl) (y_field fa_52_0 rfl) (fun w h => h) (fun w h => h) rfl (pk_seq pk_fn) (by kernel_rfl) rfl ?_
          refine a_take (i := 23) rfl (wanted_yes rfl rfl) (y_loadr 3 ty_22 rfl rfl rfl) (fun w h => h) (fun w h => h) rfl (pk_seq pk_fn) (by kernel_rfl) rfl ?_
          refine a_take (i := 24) rfl (wanted_yes rfl rfl) (y_lenl Try.underlying22 rfl) (fun w h => h) (fun w h => h) rfl (pk_seq pk_fn) (by kernel_rfl) rfl ?_
          refine a_take (i := 25) rfl (wanted_yes rfl rfl) (y_lss rfl rfl) (fun w h => h) (fun w h => h) rfl (pk_seq pk_fn) (by kernel_rfl) rfl ?_
          refine wa_splitp (t := 118) rfl (fun h19_25 => ?_) (fun h19_25 => ?_)
          · skip
            refine a_take (i := 26) rfl (wanted_yes rfl rfl) (y_move rfl) (fun w h => h) (fun w h => h) rfl (pk_seq pk_fn) (by kernel_rfl) rfl ?_
            refine a_skip (i := 27) rfl (wanted_no rfl rfl rfl) (fun w h => h) rfl (pk_seq pk_fn) (by kernel_rfl) rfl ?_
            refine a_skip (i := 29) rfl (wanted_no rfl rfl rfl) (fun w h => h) rfl (pk_seq pk_fn) (by kernel_rfl) rfl ?_
            refine a_skip (i := 28) rfl (wanted_no rfl rfl rfl) (fun w h => h) rfl (pk_seq pk_fn) (by kernel_rfl) rfl ?_
            refine a_skip (i := 30) rfl (wanted_no rfl rfl rfl) (fun w h => h) rfl (pk_seq pk_fn) (by kernel_rfl) rfl ?_
            refine a_skip (i := 31) rfl (wanted_no rfl rfl rfl) (fun w h => h) rfl (pk_seq pk_fn) (by kernel_rfl) rfl ?_
            refine a_take (i := 32) rfl (wanted_yes rfl rfl) (y_pick_t rfl rfl) (fun w h => h) (fun w h => h) rfl (pk_seq pk_fn) (by kernel_rfl) rfl ?_
            refine a_take (i := 33) rfl wanted_none (y_pick_t rfl rfl) (fun w h => h) (fun w h => h) rfl (pk_seq pk_fn) (by kernel_rfl) rfl ?_
            refine a_take (i := 34) rfl wanted_none (y_assign rfl) (fun w h => h) (fun w h => h) rfl (pk_seq pk_fn) (by kernel_rfl) rfl ?_
            refine a_done (by kernel_rfl) ?_
            refine e_seq ?_
            refine w_ret ?_
            refine e_ret (ts := [4]) rfl rfl rfl (fun w hw => ?_)
            exact ⟨(), rfl, hw.base, (hw.weak (List.nil_sublist _) (fun s hs => hs)).toNews⟩
          · skip
            refine a_take (i := 26) rfl (wanted_yes rfl rfl) (y_move rfl) (fun w h => h) (fun w h => h) rfl (pk_seq pk_fn) (by kernel_rfl) rfl ?_
            refine a_take (i := 27) rfl (wanted_yes rfl rfl) (y_loadrs 3 ty_52 rfl rfl rfl rfl) (fun w h => h) (fun w h => h) rfl (pk_seq pk_fn) (by kernel_rfl) rfl ?_
            refine a_take (i := 29) rfl (wanted_yes rfl rfl) (y_loadrs 2 ty_52 rfl rfl rfl rfl) (fun w h => h) (fun w h => h) rfl (pk_seq pk_fn) (by kernel_rfl) rfl ?_
            refine a_one (i := 28) rfl rfl rfl (tame_call rfl ent_39) (by kernel_rfl) rfl ?_
            refine wl_gyes rfl rfl ?_
            refine o_callq rfl ent_39 rfl (c_Last (chN ix.hm n) _ _ _ _ (by omega)) (fun w hw => (rd_cons (rd_Ls 5 rfl hw) rd_nil)) ?_
            refine wl_nil ?_
            refine e_one (fun w h => h) ?_
            refine a_one (i := 30) rfl rfl rfl (tame_call rfl ent_39) (by kernel_rfl) rfl ?_
            refine wl_gyes rfl rfl ?_
            refine o_callq rfl ent_39 rfl (c_Last (chN ix.hm (foldN n)) _ _ _ _ (by omega)) (fun w hw => (rd_cons (rd_Ls 4 rfl hw) rd_nil)) ?_
            refine wl_nil ?_
            refine e_one (fun w h => h) ?_
            refine a_take (i := 31) rfl (wanted_yes rfl rfl) (y_eqls rfl rfl) (fun w h => h) (fun w h => h) rfl (pk_seq pk_fn) (by kernel_rfl) rfl ?_
            refine wa_at (t := 124) rfl (fold_last hn0 h19_25) ?_
            refine a_take (i := 32) rfl (wanted_yes rfl rfl) (y_pick_f rfl rfl) (fun w h => h) (fun w h => h) rfl (pk_seq pk_fn) (by kernel_rfl) rfl ?_
            refine a_take (i := 33) rfl wanted_none (y_pick_t rfl rfl) (fun w h => h) (fun w h => h) rfl (pk_seq pk_fn) (by kernel_rfl) rfl ?_
            refine a_take (i := 34) rfl wanted_none (y_assign rfl) (fun w h => h) (fun w h => h) rfl (pk_seq pk_fn) (by kernel_rfl) rfl ?_
            refine a_done (by kernel_rfl) ?_
            refine e_seq ?_
            refine w_ret ?_
            refine e_ret (ts := [4]) rfl rfl rfl (fun w hw => ?_)
            exact ⟨(), rfl, hw.base, (hw.weak (List.nil_sublist _) (fun s hs => hs)).toNews⟩
    · skip
      refine o_y (y_not rfl) rfl rfl ?_
      refine o_y (y_move rfl) rfl rfl ?_
      refine wl_gno rfl rfl rfl rfl ?_
      refine wl_gno rfl rfl rfl rfl ?_
      refine wl_gno rfl rfl rfl rfl ?_
      refine o_y (y_pick_t rfl rfl) rfl rfl ?_
      refine wl_nil ?_
      refine e_seq ?_
      refine w_cond_t rfl ?_
      refine w_seq ?_
      refine w_region ?_
      refine o_y (y_assign rfl) rfl rfl ?_
      refine wl_nil ?_
      refine e_seq ?_
      refine w_ret ?_
      refine e_seq_ret ?_
      refine e_ret (ts := [4]) rfl rfl rfl (fun w hw => ?_)
      exact ⟨(), rfl, hw.base, (hw.weak (List.nil_sublist _) (fun s hs => hs)).toNews⟩
  · skip
    refine w_seq ?_
    refine w_region ?_
    refine o_box rfl rfl rfl (fun b9 => ?_)
    refine o_y (y_assign rfl) rfl rfl ?_
    refine wl_nil ?_
    refine e_seq ?_
    refine w_seq ?_
    refine w_seq ?_
    refine w_region ?_
    refine o_callp rfl ent_23 c_lives21 rfl ?_
    refine wl_as (t := 12) (.bool true) rfl (congrArg Value.bool rfl) ?_
    refine o_y (y_not rfl) rfl rfl ?_
    refine wl_nil ?_
    refine e_seq ?_
    refine w_cond_f rfl ?_
    refine w_skip ?_
    refine e_seq ?_
    refine w_seq ?_
    refine w_seq ?_
    refine w_region ?_
    refine o_y (y_field fa_41_1 rfl) rfl rfl ?_
    refine o_y (y_loadr 0 ty_39 rfl rfl rfl) rfl rfl ?_
    refine o_callq rfl ent_24 rfl (c_LightEntries _ _ _ _ (by omega)) (fun w hw => (rd_cons (rd_S 0 rfl hw) rd_nil)) ?_
    refine wl_splitb (t := 16) rfl (fun h3_2 => ?_) (fun h3_2 => ?_)
    · skip
      have hle9 := lightEs_le h3_2
      have hok : TbOk l := fun x hx => ⟨hen x hx, hle9.1 x hx⟩
      have hl9 := hle9.2
      refine o_y (y_not rfl) rfl rfl ?_
      refine o_y (y_move rfl) rfl rfl ?_
      refine wl_gyes rfl rfl ?_
      refine o_y (y_move rfl) rfl rfl ?_
      refine wl_gyes rfl rfl ?_
      refine o_callp rfl ent_17 (c_ref02_Check _) rfl ?_
      refine wl_gyes rfl rfl ?_
      refine o_y (y_neq rfl rfl) rfl rfl ?_
      refine wl_splitp (t := 21) rfl (fun h3_7 => ?_) (fun h3_7 => ?_)
      · skip
        refine o_y (y_pick_f rfl rfl) rfl rfl ?_
        refine wl_nil ?_
        refine e_seq ?_
        refine w_cond_t rfl ?_
        refine w_seq ?_
        refine w_region ?_
        refine o_y (y_assign rfl) rfl rfl ?_
        refine wl_nil ?_
        refine e_seq ?_
        refine w_ret ?_
        refine e_seq_ret ?_
        refine e_ret (ts := [4]) rfl rfl rfl (fun w hw => ?_)
        exact ⟨(), rfl, hw.base, (hw.weak (List.nil_sublist _) (fun s hs => hs)).toNews⟩
      · skip
        have hn0 : nameCk n = 0 := by omega
        have hnl2 := (nameCk_zero.1 hn0).1
        refine o_y (y_pick_f rfl rfl) rfl rfl ?_
        refine wl_nil ?_
        refine e_seq ?_
        refine w_cond_f rfl ?_
        refine w_skip ?_
        refine e_seq ?_
        refine w_seq ?_
        refine w_region ?_
        refine o_y (y_loadrs 0 ty_41 rfl rfl rfl rfl) rfl rfl ?_
        refine o_callq rfl ent_25 rfl (c_index_Newbad v l F d hok (by omega) hT _ _ _) (fun w hw => (rd_cons (rd_S 0 rfl hw) (rd_cons (rd_S 1 rfl hw) rd_nil))) ?_
        refine o_y (y_move rfl) rfl rfl ?_
        refine o_y (y_extract rfl rfl) rfl rfl ?_
        refine o_y (y_extract rfl rfl) rfl rfl ?_
        refine o_y (y_assign rfl) rfl rfl ?_
        refine o_y (y_assign rfl) rfl rfl ?_
        refine wl_nil ?_
        refine e_seq ?_
        refine w_seq ?_
        refine w_seq ?_
        refine w_region ?_
        refine o_y (y_move rfl) rfl rfl ?_
        refine o_y (y_neq rfl rfl) rfl rfl ?_
        refine wl_at (t := 29) rfl hT ?_
        refine wl_nil ?_
        refine e_seq ?_
        refine w_cond_t rfl ?_
        refine w_seq ?_
        refine w_region ?_
        refine o_y (y_assign rfl) rfl rfl ?_
        refine wl_nil ?_
        refine e_seq ?_
        refine w_ret ?_
        refine e_seq_ret ?_
        refine e_ret (ts := [4]) rfl rfl rfl (fun w hw => ?_)
        exact ⟨(), rfl, hw.base, (hw.weak (List.nil_sublist _) (fun s hs => hs)).toNews⟩
    · skip
      refine o_y (y_not rfl) rfl rfl ?_
      refine o_y (y_move rfl) rfl rfl ?_
      refine wl_gno rfl rfl rfl rfl ?_
      refine wl_gno rfl rfl rfl rfl ?_
      refine wl_gno rfl rfl rfl rfl ?_
      refine o_y (y_pick_t rfl rfl) rfl rfl ?_
      refine wl_nil ?_
      refine e_seq ?_
      refine w_cond_t rfl ?_
      refine w_seq ?_
      refine w_region ?_
      refine o_y (y_assign rfl) rfl rfl ?_
      refine wl_nil ?_
      refine e_seq ?_
      refine w_ret ?_
      refine e_seq_ret ?_
      refine e_ret (ts := [4]) rfl rfl rfl (fun w hw => ?_)
      exact ⟨(), rfl, hw.base, (hw.weak (List.nil_sublist _) (fun s hs => hs)).toNews⟩
end Go.Proofs.Ytckfjfnkombelaa
