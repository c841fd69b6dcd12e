/- chains: followed; hops -/
import Derived.Test.YtckfjfnkombelaaPgQCR18
namespace Go.Proofs.Ytckfjfnkombelaa
open Go.RowKit Go.Shelf
set_option linter.unusedVariables false
set_option linter.unusedSimpArgs false

theorem bu_50_0_1_4_6 (x0 : Str) (x1 : Int) (x2 : Str) (x3 : Int) : Try.prog.built 50 [(0, .string (ba x0)), (1, .int .i64 x1), (4, .string (ba x2)), (6, .int .u32 x3)] = some [.string (ba x0), .int .i64 x1, .string ⟨#[]⟩, .slice none 0 0, .string (ba x2), .slice none 0 0, .int .u32 x3].toArray := by kernel_rfl
theorem bu_52_0 (x0 : Option Addr) (x1 : Nat) (x2 : Nat) : Try.prog.built 52 [(0, .slice x0 x1 x2)] = some [.slice x0 x1 x2, .int .i64 0, .string ⟨#[]⟩, .int .i64 0, .string ⟨#[]⟩, .slice none 0 0, .string ⟨#[]⟩, .slice none 0 0, .int .u32 0].toArray := by kernel_rfl
theorem fa_52_0 : FA Try.prog 52 0 0 := fun b o w => by kernel_rfl
theorem fa_52_1 : FA Try.prog 52 1 1 := fun b o w => by kernel_rfl
theorem fa_52_2 : FA Try.prog 52 2 2 := fun b o w => by kernel_rfl
theorem ty_52 : TyI Try.prog 52 true 9 144 (.agg #[.slice none 0 0, .int .i64 0, .string ⟨#[]⟩, .int .i64 0, .string ⟨#[]⟩, .slice none 0 0, .string ⟨#[]⟩, .slice none 0 0, .int .u32 0]) := TyI.mk' (by kernel_rfl) (fun _ => by kernel_rfl)
set_option maxRecDepth 100000 in
set_option maxHeartbeats 1000000 in
theorem c_Follow (x : Ixd) (n : Str) : RC Try.prog 26 #[.pointer (some ⟨x.b, 0, none⟩), .string (ba n)] [Ch.row x.b (ixC x) 119, Ch.mp x.rh encN encE x.hm] (α := Option Addr × Nat) (fun p => .agg (chC (chN x.hm n).length p.1 p.2 (chS x.hm n) (chE x.hm n)).toArray) (fun p => [Ch.ls p.1 p.2 25 1 encs (chN x.hm n)]) := by
  refine rc_of_W (args := [.pointer (some ⟨x.b, 0, none⟩), .string (ba n)]) 55 Try.func26 rfl rfl rfl (fun w0 => ?_)
  refine w_seq ?_
  refine w_region ?_
  refine o_alloc ty_52 rfl rfl (fun b1 => ?_)
  refine wl_nil ?_
  refine e_seq ?_
  refine w_scope ?_
  refine w_seq ?_
  refine w_region ?_
  refine o_y (y_move rfl) rfl rfl ?_
  refine o_bsl (vs := [_]) ([n] : List (Str)) enc_s Try.underlying22 ty_25 rfl rfl rfl rfl rfl rfl (fun As2 => ?_)
  refine o_y (y_build rfl (bu_52_0 _ _ _)) rfl rfl ?_
  refine o_alloc ty_52 rfl rfl (fun b3 => ?_)
  refine o_store ty_52 rfl rfl rfl .z rfl rfl rfl rfl ?_
  refine wl_nil ?_
  refine e_seq ?_
  refine w_seq ?_
  refine w_seq ?_
  refine w_region ?_
  refine o_y (y_move rfl) rfl rfl ?_
  refine o_y (y_eqp Try.underlying43 rfl rfl) rfl rfl ?_
  refine wl_as (t := 12) (.bool false) rfl (congrArg Value.bool rfl) ?_
  refine o_y (y_move rfl) rfl rfl ?_
  refine wl_gyes rfl rfl ?_
  refine o_y (y_move rfl) rfl rfl ?_
  refine wl_gyes rfl rfl ?_
  refine o_callp rfl ent_57 (c_name_Check _) rfl ?_
  refine wl_gyes rfl rfl ?_
  refine o_y (y_neq rfl rfl) rfl rfl ?_
  refine wl_splitp (t := 16) rfl (fun h2_5 => ?_) (fun h2_5 => ?_)
  · skip
    refine o_y (y_pick_f rfl rfl) rfl rfl ?_
    refine wl_nil ?_
    refine e_seq ?_
    refine w_cond_t rfl ?_
    refine w_seq ?_
    refine w_region ?_
    refine o_y (y_loadrs 0 ty_52 rfl rfl rfl rfl) rfl rfl ?_
    refine o_store ty_52 rfl rfl rfl (.s (.s (.z))) rfl rfl rfl rfl ?_
    refine wl_nil ?_
    refine e_seq ?_
    refine w_ret ?_
    refine e_seq_ret ?_
    refine e_scope_ret ?_
    refine e_rsr (rs := [.cell 4 52]) rfl (rs_cells 2 ty_52 rfl rfl rfl rfl rs_nil) rfl (fun w hw => ?_)
    have hf : findI x.hm n = none := findI_bad h2_5
    have hg := tail_none (gal_none hf) 8
    have hN : chN x.hm n = [n] := hg.1
    have hL : chL x.hm n = n := hg.2
    have hS : chS x.hm n = 0 := by rw [chS, hL, hf, hN]; rfl
    have hE : chE x.hm n = le0 := by rw [chE, hL, hf]; rfl
    exact ⟨(As2, 1), by rw [hN, hS, hE]; rfl, hw.base, by rw [hN]; exact (hw.weak (.cons _ (.cons_cons _ (.cons _ .slnil))) (fun s hs => hs)).toNews⟩
  · skip
    refine o_y (y_pick_f rfl rfl) rfl rfl ?_
    refine wl_nil ?_
    refine e_seq ?_
    refine w_cond_f rfl ?_
    refine w_skip ?_
    refine e_seq ?_
    refine w_seq ?_
    refine w_label ?_
    refine e_seq ?_
    refine w_seq ?_
    refine w_block ?_
    refine w_loopL (σ := List Str × Str × Option Addr × Nat) [1, 6, 7, 19, 20, 21, 22, 23, 24, 25, 26, 27, 28, 29, 30, 31, 32, 33, 34, 35, 36, 37, 38, 39, 40, 41, 42, 43, 44, 45, 46, 47, 48, 49, 50, 51, 52, 53] (fun q => tailN (galI x.hm) 8 n = q.1 ++ tailN (galI x.hm) (8 - q.1.length) q.2.1 ∧ lastN (galI x.hm) 8 n = lastN (galI x.hm) (8 - q.1.length) q.2.1 ∧ q.1.length ≤ 8) (fun q => 8 - q.1.length) (fun q => [(1, .string (ba q.2.1))]) (fun q => [Ch.row b3 (chC (q.1 ++ [q.2.1]).length q.2.2.1 q.2.2.2 0 le0) 52, Ch.ls q.2.2.1 q.2.2.2 25 1 encs (q.1 ++ [q.2.1])]) (([], n, As2, 1)) ?_ ⟨rfl, trivial⟩ rfl (fun q hI => ?_)
    · exact ⟨rfl, rfl, Nat.zero_le _⟩
    obtain ⟨pre, m, Ac, cc⟩ := q
    dsimp only at hI ⊢
    refine w_block ?_
    refine w_seq ?_
    refine w_region ?_
    refine o_y (y_move rfl) rfl rfl ?_
    refine o_y (y_move rfl) rfl rfl ?_
    refine o_callq rfl ent_32 rfl (c_Find x _) (fun w hw => (rd_cons (rd_S 0 rfl hw) (rd_cons (rd_S 1 rfl hw) rd_nil))) ?_
    refine o_y (y_move rfl) rfl rfl ?_
    refine o_y (y_extract rfl rfl) rfl rfl ?_
    refine o_y (y_extract rfl rfl) rfl rfl ?_
    refine wl_splitb (t := 24) rfl (fun h4_5 => ?_) (fun h4_5 => ?_)
    · skip
      refine o_alloc ty_50 rfl rfl (fun b4 => ?_)
      refine o_store ty_50 rfl rfl rfl .z rfl rfl rfl rfl ?_
      refine o_y (y_assign rfl) rfl rfl ?_
      refine wl_nil ?_
      refine e_seq ?_
      refine w_seq ?_
      refine w_block ?_
      refine w_seq ?_
      refine w_region ?_
      refine o_y (y_move rfl) rfl rfl ?_
      refine o_y (y_not rfl) rfl rfl ?_
      refine o_y (y_assign rfl) rfl rfl ?_
      refine wl_nil ?_
      refine e_seq ?_
      refine w_cond_f rfl ?_
      refine w_seq ?_
      refine w_region ?_
      refine o_y (y_field fa_50_1 rfl) rfl rfl ?_
      refine o_y (y_loadr 0 ty_3 rfl rfl rfl) rfl rfl ?_
      refine o_y (y_neq rfl rfl) rfl rfl ?_
      refine wl_splitp (t := 36) rfl (fun h8_2 => ?_) (fun h8_2 => ?_)
      · skip
        refine o_y (y_assign rfl) rfl rfl ?_
        refine wl_nil ?_
        refine e_seq ?_
        refine w_cond_t rfl ?_
        refine w_seq ?_
        have hst := tail_stop hI.1 hI.2.1 (.inl (gal_other h8_2))
        have hN : chN x.hm n = pre ++ [m] := hst.1
        have hL : chL x.hm n = m := hst.2
        have hsn := st_other (len := (chN x.hm n).length) h4_5 h8_2
        have hS : chS x.hm n = 1 := by rw [chS, hL, hsn.1]
        have hE : chE x.hm n = (findI x.hm m).getD le0 := by rw [chE, hL, hsn.2]
        refine w_drawA 4 rfl mixed (fun w h => (h.any (b := b3) (n := 9) (T := 52) (.s (.z)) rfl)) ?_
        refine a_take (i := 0) rfl wanted_none (y_loadrs 0 ty_50 rfl rfl rfl rfl) (fun w h => (h.any (b := b3) (n := 9) (T := 52) (.s (.z)) rfl)) (fun w h => h) rfl (pk_seq (pk_blk (pk_seq (pk_blk (pk_loop (pk_blk (pk_seq (pk_scope pk_fn)))))))) (by kernel_rfl) rfl ?_
        refine a_take (i := 1) rfl wanted_none (y_field fa_52_1 rfl) (fun w h => (h.any (b := b3) (n := 9) (T := 52) (.s (.z)) rfl)) (fun w h => h) rfl (pk_seq (pk_blk (pk_seq (pk_blk (pk_loop (pk_blk (pk_seq (pk_scope pk_fn)))))))) (by kernel_rfl) rfl ?_
        refine a_one (i := 2) rfl rfl rfl (fun _ _ _ => tame_op (by kernel_rfl)) (by kernel_rfl) rfl ?_
        refine o_store ty_3 rfl rfl rfl (.s (.z)) rfl rfl rfl rfl ?_
        refine wl_nil ?_
        refine e_one (fun w h => (h.any (b := b3) (n := 9) (T := 52) (.s (.z)) rfl)) ?_
        refine a_take (i := 3) rfl wanted_none (y_field fa_52_2 rfl) (fun w h => (h.any (b := b3) (n := 9) (T := 52) (.s (.z)) rfl)) (fun w h => h) rfl (pk_seq (pk_blk (pk_seq (pk_blk (pk_loop (pk_blk (pk_seq (pk_scope pk_fn)))))))) (by kernel_rfl) rfl ?_
        refine a_one (i := 4) rfl rfl rfl (fun _ _ _ => tame_op (by kernel_rfl)) (by kernel_rfl) rfl ?_
        refine o_store ty_50 rfl rfl rfl (.s (.z)) rfl rfl rfl rfl ?_
        refine wl_nil ?_
        refine e_tail rfl ?_
        refine a_done (by kernel_rfl) ?_
        refine e_seq ?_
        refine w_exit ?_
        refine e_blk_miss rfl ?_
        refine e_seq_exit ?_
        refine e_blk_miss rfl ?_
        refine e_loop_exit ?_
        refine e_blk_hit ?_
        refine e_seq ?_
        refine w_seq ?_
        refine w_region ?_
        refine o_y (y_loadrs 1 ty_52 rfl rfl rfl rfl) rfl rfl ?_
        refine o_store ty_52 rfl rfl rfl (.s (.s (.s (.z)))) rfl rfl rfl rfl ?_
        refine wl_nil ?_
        refine e_seq ?_
        refine w_ret ?_
        refine e_scope_ret ?_
        refine e_rsr (rs := [.cell 4 52]) rfl (rs_cells 3 ty_52 rfl rfl rfl rfl rs_nil) rfl (fun w hw => ?_)
        exact ⟨(Ac, cc), by rw [hN, hS, hE]; rfl, hw.base, by rw [hN]; exact (hw.weak (.cons _ (.cons _ (.cons_cons _ (.cons _ .slnil)))) (fun s hs => hs)).toNews⟩
      · skip
        refine o_y (y_assign rfl) rfl rfl ?_
        refine wl_nil ?_
        refine e_seq ?_
        refine w_cond_f rfl ?_
        refine w_seq ?_
        refine w_region ?_
        refine o_y (y_field fa_52_0 rfl) rfl rfl ?_
        refine o_y (y_loadr 1 ty_22 rfl rfl rfl) rfl rfl ?_
        refine o_y (y_lenl Try.underlying22 rfl) rfl rfl ?_
        refine o_y (y_gtr rfl rfl) rfl rfl ?_
        refine wl_splitp (t := 44) rfl (fun h10_3 => ?_) (fun h10_3 => ?_)
        · skip
          refine o_y (y_assign rfl) rfl rfl ?_
          refine wl_nil ?_
          refine e_seq ?_
          refine w_cond_t rfl ?_
          refine w_seq ?_
          have hst := tail_stop hI.1 hI.2.1 (.inr (by simp only [List.length_append, List.length_cons, List.length_nil] at h10_3; omega))
          have hN : chN x.hm n = pre ++ [m] := hst.1
          have hL : chL x.hm n = m := hst.2
          have hk3 : ((findI x.hm m).getD le0).e.kind = 3 := by omega
          have hsn := st_alias (len := (chN x.hm n).length) h4_5 hk3
          have hS : chS x.hm n = 3 := by rw [chS, hL, hsn.1]
          have hE : chE x.hm n = le0 := by rw [chE, hL, hsn.2]
          refine w_region ?_
          refine o_y (y_field fa_52_1 rfl) rfl rfl ?_
          refine o_store ty_3 rfl rfl rfl (.s (.z)) rfl rfl rfl rfl ?_
          refine wl_nil ?_
          refine e_seq ?_
          refine w_exit ?_
          refine e_blk_miss rfl ?_
          refine e_seq_exit ?_
          refine e_blk_miss rfl ?_
          refine e_loop_exit ?_
          refine e_blk_hit ?_
          refine e_seq ?_
          refine w_seq ?_
          refine w_region ?_
          refine o_y (y_loadrs 1 ty_52 rfl rfl rfl rfl) rfl rfl ?_
          refine o_store ty_52 rfl rfl rfl (.s (.s (.s (.z)))) rfl rfl rfl rfl ?_
          refine wl_nil ?_
          refine e_seq ?_
          refine w_ret ?_
          refine e_scope_ret ?_
          refine e_rsr (rs := [.cell 4 52]) rfl (rs_cells 3 ty_52 rfl rfl rfl rfl rs_nil) rfl (fun w hw => ?_)
          exact ⟨(Ac, cc), by rw [hN, hS, hE]; rfl, hw.base, by rw [hN]; exact (hw.weak (.cons _ (.cons _ (.cons_cons _ (.cons _ .slnil)))) (fun s hs => hs)).toNews⟩
        · skip
          refine o_y (y_assign rfl) rfl rfl ?_
          refine wl_nil ?_
          refine e_seq ?_
          refine w_cond_f rfl ?_
          refine w_skip ?_
          refine e_blk ?_
          refine e_seq ?_
          refine w_seq ?_
          have hk3 : ((findI x.hm m).getD le0).e.kind = 3 := by omega
          have hpl : pre.length < 8 := by simp only [List.length_append, List.length_cons, List.length_nil] at h10_3; omega
          have hgo := tail_go hI.1 hI.2.1 (gal_yes h4_5 hk3) hpl
          refine w_region ?_
          refine o_y (y_field fa_50_4 rfl) rfl rfl ?_
          refine o_y (y_loadr 0 ty_25 rfl rfl rfl) rfl rfl ?_
          refine o_y (y_assign rfl) rfl rfl ?_
          refine wl_nil ?_
          refine e_seq ?_
          refine w_region ?_
          refine o_y (y_field fa_52_0 rfl) rfl rfl ?_
          refine o_y (y_loadr 1 ty_22 rfl rfl rfl) rfl rfl ?_
          refine o_y (y_move rfl) rfl rfl ?_
          refine o_bsl (vs := [_]) ([((findI x.hm m).getD le0).e.alias] : List (Str)) enc_s Try.underlying22 ty_25 rfl rfl rfl rfl rfl rfl (fun As5 => ?_)
          refine o_appm (enc := encs) (sz := 1) _ Try.underlying22 ty_25 rfl rfl rfl (fun A c => (.s (.s (.s (.z))))) (src_L 0 Try.underlying22 rfl) (by simp only [List.length_cons, List.length_nil, Nat.zero_add]; omega) (by simp only [List.length_cons, List.length_nil, Nat.zero_add]; omega) rfl (fun A5 c5 => ?_)
          refine o_y (y_field fa_52_0 rfl) rfl rfl ?_
          refine o_store ty_22 rfl rfl rfl (.s (.s (.z))) rfl rfl rfl rfl ?_
          refine wl_nil ?_
          refine e_blk ?_
          refine e_back ((pre ++ [m], ((findI x.hm m).getD le0).e.alias, A5, c5)) ?_ ?_ ⟨rfl, trivial⟩ (by repeat (first | exact trivial | refine ⟨rfl, ?_⟩)) (fun w h => h.weak (.cons _ (.cons _ (List.Sublist.refl _))) (fun s hs => hs))
          · exact ⟨hgo.1, hgo.2, by show (pre ++ [m]).length ≤ 8; simp; omega⟩
          · show 8 - (pre ++ [m]).length < 8 - pre.length
            simp; omega
    · skip
      refine o_alloc ty_50 rfl rfl (fun b7 => ?_)
      refine o_store ty_50 rfl rfl rfl .z rfl rfl rfl rfl ?_
      refine o_y (y_assign rfl) rfl rfl ?_
      refine wl_nil ?_
      refine e_seq ?_
      refine w_seq ?_
      refine w_block ?_
      refine w_seq ?_
      refine w_region ?_
      refine o_y (y_move rfl) rfl rfl ?_
      refine o_y (y_not rfl) rfl rfl ?_
      refine o_y (y_assign rfl) rfl rfl ?_
      refine wl_nil ?_
      refine e_seq ?_
      refine w_cond_t rfl ?_
      refine w_seq ?_
      refine w_seq ?_
      have hst := tail_stop hI.1 hI.2.1 (.inl (gal_none (none_of h4_5)))
      have hN : chN x.hm n = pre ++ [m] := hst.1
      have hL : chL x.hm n = m := hst.2
      have hsn := st_none (len := (chN x.hm n).length) h4_5
      have hE : chE x.hm n = le0 := by rw [chE, hL, hsn.2]
      refine w_region ?_
      refine o_y (y_field fa_52_0 rfl) rfl rfl ?_
      refine o_y (y_loadr 1 ty_22 rfl rfl rfl) rfl rfl ?_
      refine o_y (y_lenl Try.underlying22 rfl) rfl rfl ?_
      refine o_y (y_gtr rfl rfl) rfl rfl ?_
      refine wl_splitp (t := 31) rfl (fun h6_3 => ?_) (fun h6_3 => ?_)
      · skip
        have hS : chS x.hm n = 2 := by rw [chS, hL, hsn.1, hN, if_pos (by simp only [List.length_append, List.length_cons, List.length_nil] at h6_3 ⊢; omega)]
        refine wl_nil ?_
        refine e_seq ?_
        refine w_cond_t rfl ?_
        refine w_region ?_
        refine o_y (y_field fa_52_1 rfl) rfl rfl ?_
        refine o_store ty_3 rfl rfl rfl (.s (.z)) rfl rfl rfl rfl ?_
        refine wl_nil ?_
        refine e_seq ?_
        refine w_exit ?_
        refine e_blk_miss rfl ?_
        refine e_seq_exit ?_
        refine e_blk_miss rfl ?_
        refine e_loop_exit ?_
        refine e_blk_hit ?_
        refine e_seq ?_
        refine w_seq ?_
        refine w_region ?_
        refine o_y (y_loadrs 1 ty_52 rfl rfl rfl rfl) rfl rfl ?_
        refine o_store ty_52 rfl rfl rfl (.s (.s (.s (.z)))) rfl rfl rfl rfl ?_
        refine wl_nil ?_
        refine e_seq ?_
        refine w_ret ?_
        refine e_scope_ret ?_
        refine e_rsr (rs := [.cell 4 52]) rfl (rs_cells 3 ty_52 rfl rfl rfl rfl rs_nil) rfl (fun w hw => ?_)
        exact ⟨(Ac, cc), by rw [hN, hS, hE]; rfl, hw.base, by rw [hN]; exact (hw.weak (.cons _ (.cons _ (.cons_cons _ (.cons _ .slnil)))) (fun s hs => hs)).toNews⟩
      · skip
        have hS : chS x.hm n = 0 := by rw [chS, hL, hsn.1, hN, if_neg (by simp only [List.length_append, List.length_cons, List.length_nil] at h6_3 ⊢; omega)]
        refine wl_nil ?_
        refine e_seq ?_
        refine w_cond_f rfl ?_
        refine w_skip ?_
        refine e_seq ?_
        refine w_exit ?_
        refine e_blk_miss rfl ?_
        refine e_seq_exit ?_
        refine e_blk_miss rfl ?_
        refine e_loop_exit ?_
        refine e_blk_hit ?_
        refine e_seq ?_
        refine w_seq ?_
        refine w_region ?_
        refine o_y (y_loadrs 1 ty_52 rfl rfl rfl rfl) rfl rfl ?_
        refine o_store ty_52 rfl rfl rfl (.s (.s (.s (.z)))) rfl rfl rfl rfl ?_
        refine wl_nil ?_
        refine e_seq ?_
        refine w_ret ?_
        refine e_scope_ret ?_
        refine e_rsr (rs := [.cell 4 52]) rfl (rs_cells 3 ty_52 rfl rfl rfl rfl rs_nil) rfl (fun w hw => ?_)
        exact ⟨(Ac, cc), by rw [hN, hS, hE]; rfl, hw.base, by rw [hN]; exact (hw.weak (.cons _ (.cons _ (.cons_cons _ (.cons _ .slnil)))) (fun s hs => hs)).toNews⟩

theorem c_alias21 (a b : Str) : RC Try.prog 51 #[.string (ba a), .string (ba b)] [] (α := Unit) (fun _ => .agg (elC ⟨⟨a, 3, [], [], b, [], 7⟩, none, 0, none, 0⟩).toArray) (fun _ => []) := by
  refine rc_of_W (args := [.string (ba a), .string (ba b)]) 8 Try.func51 rfl rfl rfl (fun w0 => ?_)
  refine w_seq ?_
  refine w_region ?_
  refine o_alloc ty_50 rfl rfl (fun b1 => ?_)
  refine wl_nil ?_
  refine e_seq ?_
  refine w_seq ?_
  refine w_region ?_
  refine o_y (y_move rfl) rfl rfl ?_
  refine o_y (y_move rfl) rfl rfl ?_
  refine o_y (y_build rfl (bu_50_0_1_4_6 _ _ _ _)) rfl rfl ?_
  refine o_store ty_50 rfl rfl rfl .z rfl rfl rfl rfl ?_
  refine wl_nil ?_
  refine e_seq ?_
  refine w_ret ?_
  refine e_rsr (rs := [.cell 4 50]) rfl (rs_cells 0 ty_50 rfl rfl rfl rfl rs_nil) rfl (fun w hw => ?_)
  exact ⟨(), rfl, hw.base, (hw.weak (List.nil_sublist _) (fun s hs => hs)).toNews⟩

theorem c_host21 (ls : List Str) (A : Option Addr) (ca : Nat) (hl : ls.length ≤ 1000000000000) : RC Try.prog 49 #[.slice A ls.length ca] [Ch.rd A 1 encs ls] (α := Unit) (fun _ => .string (ba (makeN ls).1)) (fun _ => []) := by
  refine rc_of_W (args := [.slice A ls.length ca]) 11 Try.func49 rfl rfl rfl (fun w0 => ?_)
  refine w_seq ?_
  refine w_region ?_
  refine o_y (y_assign rfl) rfl rfl ?_
  refine wl_nil ?_
  refine e_seq ?_
  refine w_seq ?_
  refine w_region ?_
  refine o_y (y_move rfl) rfl rfl ?_
  refine o_callq rfl ent_62 rfl (c_ref02_Make _ _ _ (by omega)) (fun w hw => (rd_cons (rd_S 0 rfl hw) rd_nil)) ?_
  refine o_y (y_move rfl) rfl rfl ?_
  refine o_y (y_extract rfl rfl) rfl rfl ?_
  refine o_y (y_extract rfl rfl) rfl rfl ?_
  refine o_y (y_assign rfl) rfl rfl ?_
  refine o_y (y_assign rfl) rfl rfl ?_
  refine wl_nil ?_
  refine e_seq ?_
  refine w_seq ?_
  refine w_region ?_
  refine o_y (y_move rfl) rfl rfl ?_
  refine o_y (y_assign rfl) rfl rfl ?_
  refine wl_nil ?_
  refine e_seq ?_
  refine w_ret ?_
  refine e_ret (ts := [2]) rfl rfl rfl (fun w hw => ?_)
  exact ⟨(), rfl, hw.base, (hw.weak (List.nil_sublist _) (fun s hs => hs)).toNews⟩
end Go.Proofs.Ytckfjfnkombelaa
