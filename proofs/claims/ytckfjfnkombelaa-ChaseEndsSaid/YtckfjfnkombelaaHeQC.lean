/- the law of the ends of chains -/
import Derived.Test.YtckfjfnkombelaaHcQC
namespace Go.Proofs.Ytckfjfnkombelaa
open Go.RowKit Go.Shelf
set_option linter.unusedVariables false
set_option linter.unusedSimpArgs false

theorem ent_23 : Enters Try.prog 23 := enters_of Try.func23 (by kernel_rfl) rfl
theorem ent_29 : Enters Try.prog 29 := enters_of Try.func29 (by kernel_rfl) rfl
theorem ent_37 : Enters Try.prog 37 := enters_of Try.func37 (by kernel_rfl) rfl
theorem ent_39 : Enters Try.prog 39 := enters_of Try.func39 (by kernel_rfl) rfl

theorem ref_get {v : Int} {l : List Le} {x : Ixd} (hx : IxOk l x) (h : tabCk v l = 0) {n : Str} {r : Option Le} (hr : RefSpec l n r) : r.isSome = (findI x.hm n).isSome ∧ (r.getD le0).e = ((findI x.hm n).getD le0).e := by
  refine ⟨find_is hx h hr, ?_⟩
  have := find_ref hx h hr
  cases r with
  | none => cases h2 : findI x.hm n with
    | none => rfl
    | some y => rw [h2] at this; cases this
  | some z => cases h2 : findI x.hm n with
    | none => rw [h2] at this; cases this
    | some y => rw [h2] at this; exact (Option.some.inj this).symm
theorem ref_mem {l : List Le} {n : Str} {r : Option Le} (h : RefSpec l n r) (hs : r.isSome = true) : r.getD le0 ∈ l := by
  cases r with
  | none => cases hs
  | some y => exact h.1
theorem ch_found {m : List (Str × Le)} {n : Str} (h : (findI m (chL m n)).isSome = true) : ((chS m n = 1 ∧ ((findI m (chL m n)).getD le0).e.kind ≠ 3) ∨ (chS m n = 3 ∧ ((findI m (chL m n)).getD le0).e.kind = 3 ∧ (chN m n).length = 9)) ∧ (chS m n = 1 → (chE m n).e = ((findI m (chL m n)).getD le0).e) := by
  by_cases hk : ((findI m (chL m n)).getD le0).e.kind = 3
  · have h3 : chS m n = 3 := (st_alias h hk).1
    exact ⟨.inr ⟨h3, hk, (ch_full h3).1⟩, fun q => by omega⟩
  · have h3 := st_other (len := (chN m n).length) h hk
    exact ⟨.inl ⟨h3.1, hk⟩, fun _ => congrArg Le.e h3.2⟩
theorem ch_lost {m : List (Str × Le)} {n : Str} (h : (findI m (chL m n)).isSome = false) : (chS m n = 2 ∧ 1 < (chN m n).length) ∨ (chS m n = 0 ∧ (chN m n).length = 1) := by
  have h3 := (st_none (len := (chN m n).length) h).1
  have hl := ch_len m n
  by_cases c : 1 < (chN m n).length
  · rw [if_pos c] at h3; exact .inl ⟨h3, c⟩
  · rw [if_neg c] at h3; exact .inr ⟨h3, by omega⟩

set_option maxRecDepth 100000 in
set_option maxHeartbeats 4000000 in
theorem c_ChaseEnds (v : Int) (l : List Le) (F : Option Addr) (d : Nat) (n : Str) (hnl : n.length ≤ 9223372036854775807) (hen : ∀ x ∈ l, EnOk x.e) (hll : l.length ≤ 9223372036854775807) : RC Try.prog 7 #[.agg (tbC v F l.length d).toArray, .string (ba n)] [Ch.rd F 7 elC l, Ch.rall (l.flatMap elR)] (α := Unit) (fun _ => .bool true) (fun _ => []) := by
  refine rc_of_W (args := [.agg (tbC v F l.length d).toArray, .string (ba n)]) 163 Try.func7 rfl rfl rfl (fun w0 => ?_)
  rcases Decidable.em (tabCk v l = 0) with hT | hT
  · skip
    refine w_seq ?_
    refine w_region ?_
    refine o_box rfl rfl rfl (fun b1 => ?_)
    refine o_y (y_assign rfl) rfl rfl ?_
    refine wl_nil ?_
    refine e_seq ?_
    refine w_seq ?_
    refine w_seq ?_
    refine w_region ?_
    refine o_callp rfl ent_23 c_lives21 rfl ?_
    refine wl_as (t := 15) (.bool true) rfl (congrArg Value.bool rfl) ?_
    refine o_y (y_not rfl) rfl rfl ?_
    refine wl_nil ?_
    refine e_seq ?_
    refine w_cond_f rfl ?_
    refine w_skip ?_
    refine e_seq ?_
    refine w_seq ?_
    refine w_seq ?_
    refine w_region ?_
    refine o_y (y_field fa_41_1 rfl) rfl rfl ?_
    refine o_y (y_loadr 0 ty_39 rfl rfl rfl) rfl rfl ?_
    refine o_callq rfl ent_24 rfl (c_LightEntries _ _ _ _ (by omega)) (fun w hw => (rd_cons (rd_S 0 rfl hw) rd_nil)) ?_
    refine wl_splitb (t := 19) rfl (fun h3_2 => ?_) (fun h3_2 => ?_)
    · skip
      have hle9 := lightEs_le h3_2
      have hok : TbOk l := fun x hx => ⟨hen x hx, hle9.1 x hx⟩
      have hl9 := hle9.2
      refine o_y (y_not rfl) rfl rfl ?_
      refine o_y (y_move rfl) rfl rfl ?_
      refine wl_gyes rfl rfl ?_
      refine o_y (y_move rfl) rfl rfl ?_
      refine wl_gyes rfl rfl ?_
      refine o_callp rfl ent_17 (c_ref02_Check _) rfl ?_
      refine wl_gyes rfl rfl ?_
      refine o_y (y_neq rfl rfl) rfl rfl ?_
      refine wl_splitp (t := 24) rfl (fun h3_7 => ?_) (fun h3_7 => ?_)
      · skip
        refine o_y (y_pick_f rfl rfl) rfl rfl ?_
        refine wl_nil ?_
        refine e_seq ?_
        refine w_cond_t rfl ?_
        refine w_seq ?_
        refine w_region ?_
        refine o_y (y_assign rfl) rfl rfl ?_
        refine wl_nil ?_
        refine e_seq ?_
        refine w_ret ?_
        refine e_seq_ret ?_
        refine e_ret (ts := [4]) rfl rfl rfl (fun w hw => ?_)
        exact ⟨(), rfl, hw.base, (hw.weak (List.nil_sublist _) (fun s hs => hs)).toNews⟩
      · skip
        have hn0 : nameCk n = 0 := by omega
        have hnl2 := (nameCk_zero.1 hn0).1
        refine o_y (y_pick_f rfl rfl) rfl rfl ?_
        refine wl_nil ?_
        refine e_seq ?_
        refine w_cond_f rfl ?_
        refine w_skip ?_
        refine e_seq ?_
        refine w_seq ?_
        refine w_region ?_
        refine o_y (y_loadrs 0 ty_41 rfl rfl rfl rfl) rfl rfl ?_
        refine o_callr1 rfl ent_36 rfl (c_ref18_New0 v l F d hok (by omega) hT) (fun w hw => (rd_cons (rd_S 0 rfl hw) (rd_cons (rd_S 1 rfl hw) rd_nil))) (fun ⟨rb, rH, rh⟩ => ?_)
        refine o_y (y_move rfl) rfl rfl ?_
        refine o_y (y_extract rfl rfl) rfl rfl ?_
        refine o_y (y_extract rfl rfl) rfl rfl ?_
        refine o_y (y_assign rfl) rfl rfl ?_
        refine o_y (y_assign rfl) rfl rfl ?_
        refine wl_nil ?_
        refine e_seq ?_
        refine w_seq ?_
        refine w_seq ?_
        refine w_region ?_
        refine o_y (y_move rfl) rfl rfl ?_
        refine o_y (y_neq rfl rfl) rfl rfl ?_
        refine wl_af (t := 32) rfl (fun h9 => h9 rfl) ?_
        refine wl_nil ?_
        refine e_seq ?_
        refine w_cond_f rfl ?_
        refine w_skip ?_
        refine e_seq ?_
        refine w_seq ?_
        refine w_region ?_
        refine o_y (y_loadrs 1 ty_41 rfl rfl rfl rfl) rfl rfl ?_
        refine o_callr1 rfl ent_25 rfl (c_index_New0 v l F d hok (by omega) hT) (fun w hw => (rd_cons (rd_S 0 rfl hw) (rd_cons (rd_S 1 rfl hw) rd_nil))) (fun ⟨ix, hix⟩ => ?_)
        refine wl_heap (fun w h => h.ixOpen) ?_
        refine o_y (y_move rfl) rfl rfl ?_
        refine o_y (y_extract rfl rfl) rfl rfl ?_
        refine o_y (y_extract rfl rfl) rfl rfl ?_
        refine o_y (y_assign rfl) rfl rfl ?_
        refine o_y (y_assign rfl) rfl rfl ?_
        refine wl_nil ?_
        refine e_seq ?_
        refine w_seq ?_
        refine w_region ?_
        refine o_y (y_move rfl) rfl rfl ?_
        refine o_y (y_move rfl) rfl rfl ?_
        refine o_callr1 rfl ent_26 rfl (c_Follow ix n) (fun w hw => (rd_cons (rd_all (rd_L 0 rfl hw) (.head _)) (rd_cons (rd_all (rd_L 0 rfl hw) (.tail _ (.head _))) rd_nil))) (fun ⟨A3, c3⟩ => ?_)
        refine o_alloc ty_52 rfl rfl (fun b5 => ?_)
        refine o_store ty_52 rfl rfl rfl .z rfl rfl rfl rfl ?_
        refine wl_nil ?_
        refine e_seq ?_
        refine w_seq ?_
        refine w_seq ?_
        have hcl := ch_len ix.hm n
        have hhl := hops_chain_len ix.hm n
        refine w_draw 29 rfl mixed ?_
        refine a_take (i := 0) rfl wanted_none (y_field fa_52_0 rfl) (fun w h => h) (fun w h => h) rfl (pk_seq (pk_seq pk_fn)) (by kernel_rfl) rfl ?_
        refine a_take (i := 1) rfl wanted_none (y_loadr 0 ty_22 rfl rfl rfl) (fun w h => h) (fun w h => h) rfl (pk_seq (pk_seq pk_fn)) (by kernel_rfl) rfl ?_
        refine a_take (i := 2) rfl wanted_none (y_lenl Try.underlying22 rfl) (fun w h => h) (fun w h => h) rfl (pk_seq (pk_seq pk_fn)) (by kernel_rfl) rfl ?_
        refine a_take (i := 3) rfl wanted_none (y_lss rfl rfl) (fun w h => h) (fun w h => h) rfl (pk_seq (pk_seq pk_fn)) (by kernel_rfl) rfl ?_
        refine wa_af (t := 44) rfl (by omega) ?_
        refine a_take (i := 4) rfl wanted_none (y_move rfl) (fun w h => h) (fun w h => h) rfl (pk_seq (pk_seq pk_fn)) (by kernel_rfl) rfl ?_
        refine a_take (i := 5) rfl (wanted_yes rfl rfl) (y_field fa_52_0 rfl) (fun w h => h) (fun w h => h) rfl (pk_seq (pk_seq pk_fn)) (by kernel_rfl) rfl ?_
        refine a_take (i := 6) rfl (wanted_yes rfl rfl) (y_loadr 0 ty_22 rfl rfl rfl) (fun w h => h) (fun w h => h) rfl (pk_seq (pk_seq pk_fn)) (by kernel_rfl) rfl ?_
        refine a_take (i := 7) rfl (wanted_yes rfl rfl) (y_lenl Try.underlying22 rfl) (fun w h => h) (fun w h => h) rfl (pk_seq (pk_seq pk_fn)) (by kernel_rfl) rfl ?_
        refine a_take (i := 8) rfl (wanted_yes rfl rfl) (y_gtr rfl rfl) (fun w h => h) (fun w h => h) rfl (pk_seq (pk_seq pk_fn)) (by kernel_rfl) rfl ?_
        refine wa_af (t := 49) rfl (by omega) ?_
        refine a_take (i := 9) rfl wanted_none (y_pick_f rfl rfl) (fun w h => h) (fun w h => h) rfl (pk_seq (pk_seq pk_fn)) (by kernel_rfl) rfl ?_
        refine a_take (i := 10) rfl wanted_none (y_move rfl) (fun w h => h) (fun w h => h) rfl (pk_seq (pk_seq pk_fn)) (by kernel_rfl) rfl ?_
        refine a_take (i := 11) rfl (wanted_yes rfl rfl) (y_field fa_52_0 rfl) (fun w h => h) (fun w h => h) rfl (pk_seq (pk_seq pk_fn)) (by kernel_rfl) rfl ?_
        refine a_take (i := 12) rfl (wanted_yes rfl rfl) (y_loadr 0 ty_22 rfl rfl rfl) (fun w h => h) (fun w h => h) rfl (pk_seq (pk_seq pk_fn)) (by kernel_rfl) rfl ?_
        refine a_take (i := 13) rfl (wanted_yes rfl rfl) (y_ixm (k := 0) Try.underlying22 ty_25 rfl rfl (rs_L 1 rfl) rfl (by omega)) (fun w h => h) (fun w h => h) rfl (pk_seq (pk_seq pk_fn)) (by kernel_rfl) rfl ?_
        refine a_take (i := 14) rfl (wanted_yes rfl rfl) (y_ldm0 (k := 0) enc_s ([] : Str) ty_25 rfl (rs_L 1 rfl) (by omega) rfl rfl) (fun w h => h) (fun w h => h) rfl (pk_seq (pk_seq pk_fn)) (by kernel_rfl) rfl ?_
        refine a_take (i := 15) rfl (wanted_yes rfl rfl) (y_move rfl) (fun w h => h) (fun w h => h) rfl (pk_seq (pk_seq pk_fn)) (by kernel_rfl) rfl ?_
        refine a_take (i := 16) rfl (wanted_yes rfl rfl) (y_neqs rfl rfl) (fun w h => h) (fun w h => h) rfl (pk_seq (pk_seq pk_fn)) (by kernel_rfl) rfl ?_
        refine wa_af (t := 57) rfl (fun h => h (ch_head _ _)) ?_
        refine a_take (i := 17) rfl wanted_none (y_pick_f rfl rfl) (fun w h => h) (fun w h => h) rfl (pk_seq (pk_seq pk_fn)) (by kernel_rfl) rfl ?_
        refine a_take (i := 18) rfl wanted_none (y_move rfl) (fun w h => h) (fun w h => h) rfl (pk_seq (pk_seq pk_fn)) (by kernel_rfl) rfl ?_
        refine a_take (i := 19) rfl (wanted_yes rfl rfl) (y_move rfl) (fun w h => h) (fun w h => h) rfl (pk_seq (pk_seq pk_fn)) (by kernel_rfl) rfl ?_
        refine a_take (i := 20) rfl (wanted_yes rfl rfl) (y_loadrs 0 ty_52 rfl rfl rfl rfl) (fun w h => h) (fun w h => h) rfl (pk_seq (pk_seq pk_fn)) (by kernel_rfl) rfl ?_
        refine a_take (i := 23) rfl (wanted_yes rfl rfl) (y_field fa_52_0 rfl) (fun w h => h) (fun w h => h) rfl (pk_seq (pk_seq pk_fn)) (by kernel_rfl) rfl ?_
        refine a_take (i := 24) rfl (wanted_yes rfl rfl) (y_loadr 0 ty_22 rfl rfl rfl) (fun w h => h) (fun w h => h) rfl (pk_seq (pk_seq pk_fn)) (by kernel_rfl) rfl ?_
        refine a_take (i := 25) rfl (wanted_yes rfl rfl) (y_lenl Try.underlying22 rfl) (fun w h => h) (fun w h => h) rfl (pk_seq (pk_seq pk_fn)) (by kernel_rfl) rfl ?_
        refine a_take (i := 26) rfl (wanted_yes rfl rfl) (y_subi rfl rfl (by omega) (by omega)) (fun w h => h) (fun w h => h) rfl (pk_seq (pk_seq pk_fn)) (by kernel_rfl) rfl ?_
        refine a_one (i := 21) rfl rfl rfl (tame_call rfl ent_37) (by kernel_rfl) rfl ?_
        refine wl_gyes rfl rfl ?_
        refine o_callr1 rfl ent_37 rfl (c_Hops ix (chN ix.hm n) _ _ _ _ (by omega)) (fun w hw => (rd_cons (rd_all (rd_L 2 rfl hw) (.head _)) (rd_cons (rd_all (rd_L 2 rfl hw) (.tail _ (.head _))) (rd_cons (rd_Ls 1 rfl hw) rd_nil)))) (fun ⟨A5, c5⟩ => ?_)
        refine wl_nil ?_
        refine e_one (fun w h => h.weak (.cons _ (List.Sublist.refl _)) (fun s hs => hs)) ?_
        refine a_take (i := 22) rfl (wanted_yes rfl rfl) (y_lenl Try.underlying71 rfl) (fun w h => h.weak (.cons _ (List.Sublist.refl _)) (fun s hs => hs)) (fun w h => h) rfl (pk_seq (pk_seq pk_fn)) (by kernel_rfl) rfl ?_
        refine a_take (i := 27) rfl (wanted_yes rfl rfl) (y_neq rfl rfl) (fun w h => h.weak (.cons _ (List.Sublist.refl _)) (fun s hs => hs)) (fun w h => h) rfl (pk_seq (pk_seq pk_fn)) (by kernel_rfl) rfl ?_
        refine wa_af (t := 68) rfl (fun h => h (by omega)) ?_
        refine a_take (i := 28) rfl wanted_none (y_pick_f rfl rfl) (fun w h => h.weak (.cons _ (List.Sublist.refl _)) (fun s hs => hs)) (fun w h => h) rfl (pk_seq (pk_seq pk_fn)) (by kernel_rfl) rfl ?_
        refine a_done (by kernel_rfl) ?_
        refine e_seq ?_
        refine w_cond_f rfl ?_
        refine w_skip ?_
        refine e_seq ?_
        refine w_seq ?_
        refine w_seq ?_
        refine w_region ?_
        refine o_y (y_assign rfl) rfl rfl ?_
        refine wl_nil ?_
        refine e_seq ?_
        refine w_block ?_
        refine w_loop0 (σ := Nat) [4, 10, 11, 12, 70, 71, 72, 73, 74, 75, 76, 77, 78, 79, 80, 81, 82, 83, 84, 85, 86, 87, 88, 89, 90, 91, 92, 93, 94, 95, 96, 97, 98, 99, 100, 101, 102, 103, 104, 105] (fun k => k ≤ (chN ix.hm n).length) (fun k => (chN ix.hm n).length - k) (fun k => [(10, .int .i64 k)]) (0) ?_ ⟨rfl, trivial⟩ (fun k hI => ?_)
        · exact Nat.zero_le _
        refine w_seq ?_
        refine w_seq ?_
        refine w_region ?_
        refine o_y (y_move rfl) rfl rfl ?_
        refine o_y (y_addi rfl rfl (by omega) (by omega)) rfl rfl ?_
        refine o_y (y_field fa_52_0 rfl) rfl rfl ?_
        refine o_y (y_loadr 1 ty_22 rfl rfl rfl) rfl rfl ?_
        refine o_y (y_lenl Try.underlying22 rfl) rfl rfl ?_
        refine o_y (y_lss rfl rfl) rfl rfl ?_
        refine wl_splitp (t := 75) rfl (fun h13_5 => ?_) (fun h13_5 => ?_)
        · skip
          refine wl_nil ?_
          refine e_seq ?_
          refine w_cond_t rfl ?_
          refine w_skip ?_
          refine e_seq ?_
          refine w_seq ?_
          refine w_block ?_
          refine w_seq ?_
          have hk1 : k + 1 < (chN ix.hm n).length := by omega
          have hst := ch_step (m := ix.hm) (n := n) hk1
          refine w_region ?_
          refine o_y (y_move rfl) rfl rfl ?_
          refine o_y (y_field fa_52_0 rfl) rfl rfl ?_
          refine o_y (y_loadr 1 ty_22 rfl rfl rfl) rfl rfl ?_
          refine o_y (y_move rfl) rfl rfl ?_
          refine o_y (y_ixm  Try.underlying22 ty_25 rfl rfl (rs_L 2 rfl) rfl (by omega)) rfl rfl ?_
          refine o_y (y_ldm0 enc_s ([] : Str) ty_25 rfl (rs_L 2 rfl) (by omega) rfl rfl) rfl rfl ?_
          refine o_callr0 rfl ent_38 rfl (c_ref18_Find v l F d rb rH rh _ hok (by omega) (by have := ch_lens hix hok (n := n) (by omega) (i := k) (by omega); omega)) (fun w hw => (rd_cons (rd_L 4 rfl hw) (rd_cons (rd_S 0 rfl hw) (rd_cons (rd_S 1 rfl hw) rd_nil)))) (fun ⟨rr, hrr⟩ => ?_)
          refine o_y (y_move rfl) rfl rfl ?_
          refine o_y (y_extract rfl rfl) rfl rfl ?_
          refine o_y (y_extract rfl rfl) rfl rfl ?_
          refine wl_as (t := 87) (.bool true) rfl (congrArg Value.bool (by rw [(ref_get hix hT hrr).1]; exact hst.1)) ?_
          refine o_alloc ty_50 rfl rfl (fun b8 => ?_)
          refine o_store ty_50 rfl rfl rfl .z rfl rfl rfl rfl ?_
          refine o_y (y_assign rfl) rfl rfl ?_
          refine wl_nil ?_
          refine e_seq ?_
          refine w_seq ?_
          have hg := ref_get hix hT hrr
          refine w_draw 18 rfl mixed ?_
          refine a_take (i := 0) rfl wanted_none (y_move rfl) (fun w h => h) (fun w h => h) rfl (pk_seq (pk_blk (pk_seq (pk_loop (pk_blk (pk_seq pk_fn)))))) (by kernel_rfl) rfl ?_
          refine a_take (i := 1) rfl wanted_none (y_not rfl) (fun w h => h) (fun w h => h) rfl (pk_seq (pk_blk (pk_seq (pk_loop (pk_blk (pk_seq pk_fn)))))) (by kernel_rfl) rfl ?_
          refine a_take (i := 2) rfl wanted_none (y_move rfl) (fun w h => h) (fun w h => h) rfl (pk_seq (pk_blk (pk_seq (pk_loop (pk_blk (pk_seq pk_fn)))))) (by kernel_rfl) rfl ?_
          refine a_take (i := 3) rfl (wanted_yes rfl rfl) (y_field fa_50_1 rfl) (fun w h => h) (fun w h => h) rfl (pk_seq (pk_blk (pk_seq (pk_loop (pk_blk (pk_seq pk_fn)))))) (by kernel_rfl) rfl ?_
          refine a_take (i := 4) rfl (wanted_yes rfl rfl) (y_loadr 0 ty_3 rfl rfl rfl) (fun w h => h) (fun w h => h) rfl (pk_seq (pk_blk (pk_seq (pk_loop (pk_blk (pk_seq pk_fn)))))) (by kernel_rfl) rfl ?_
          refine a_take (i := 5) rfl (wanted_yes rfl rfl) (y_neq rfl rfl) (fun w h => h) (fun w h => h) rfl (pk_seq (pk_blk (pk_seq (pk_loop (pk_blk (pk_seq pk_fn)))))) (by kernel_rfl) rfl ?_
          refine wa_af (t := 93) rfl (fun h => h (by rw [hg.2]; exact hst.2.1)) ?_
          refine a_take (i := 6) rfl wanted_none (y_pick_f rfl rfl) (fun w h => h) (fun w h => h) rfl (pk_seq (pk_blk (pk_seq (pk_loop (pk_blk (pk_seq pk_fn)))))) (by kernel_rfl) rfl ?_
          refine a_take (i := 7) rfl wanted_none (y_move rfl) (fun w h => h) (fun w h => h) rfl (pk_seq (pk_blk (pk_seq (pk_loop (pk_blk (pk_seq pk_fn)))))) (by kernel_rfl) rfl ?_
          refine a_take (i := 8) rfl (wanted_yes rfl rfl) (y_field fa_50_4 rfl) (fun w h => h) (fun w h => h) rfl (pk_seq (pk_blk (pk_seq (pk_loop (pk_blk (pk_seq pk_fn)))))) (by kernel_rfl) rfl ?_
          refine a_take (i := 9) rfl (wanted_yes rfl rfl) (y_loadr 0 ty_25 rfl rfl rfl) (fun w h => h) (fun w h => h) rfl (pk_seq (pk_blk (pk_seq (pk_loop (pk_blk (pk_seq pk_fn)))))) (by kernel_rfl) rfl ?_
          refine a_take (i := 10) rfl (wanted_yes rfl rfl) (y_field fa_52_0 rfl) (fun w h => h) (fun w h => h) rfl (pk_seq (pk_blk (pk_seq (pk_loop (pk_blk (pk_seq pk_fn)))))) (by kernel_rfl) rfl ?_
          refine a_take (i := 11) rfl (wanted_yes rfl rfl) (y_loadr 2 ty_22 rfl rfl rfl) (fun w h => h) (fun w h => h) rfl (pk_seq (pk_blk (pk_seq (pk_loop (pk_blk (pk_seq pk_fn)))))) (by kernel_rfl) rfl ?_
          refine a_take (i := 12) rfl (wanted_yes rfl rfl) (y_move rfl) (fun w h => h) (fun w h => h) rfl (pk_seq (pk_blk (pk_seq (pk_loop (pk_blk (pk_seq pk_fn)))))) (by kernel_rfl) rfl ?_
          refine a_take (i := 13) rfl (wanted_yes rfl rfl) (y_addi rfl rfl (by omega) (by omega)) (fun w h => h) (fun w h => h) rfl (pk_seq (pk_blk (pk_seq (pk_loop (pk_blk (pk_seq pk_fn)))))) (by kernel_rfl) rfl ?_
          refine a_take (i := 14) rfl (wanted_yes rfl rfl) (y_ixm (k := (k + 1)) Try.underlying22 ty_25 rfl rfl (rs_L 3 rfl) (by omega) (by omega)) (fun w h => h) (fun w h => h) rfl (pk_seq (pk_blk (pk_seq (pk_loop (pk_blk (pk_seq pk_fn)))))) (by kernel_rfl) rfl ?_
          refine a_take (i := 15) rfl (wanted_yes rfl rfl) (y_ldm0 enc_s ([] : Str) ty_25 rfl (rs_L 3 rfl) (by omega) rfl rfl) (fun w h => h) (fun w h => h) rfl (pk_seq (pk_blk (pk_seq (pk_loop (pk_blk (pk_seq pk_fn)))))) (by kernel_rfl) rfl ?_
          refine a_take (i := 16) rfl (wanted_yes rfl rfl) (y_neqs rfl rfl) (fun w h => h) (fun w h => h) rfl (pk_seq (pk_blk (pk_seq (pk_loop (pk_blk (pk_seq pk_fn)))))) (by kernel_rfl) rfl ?_
          refine wa_af (t := 104) rfl (fun h => h (by rw [hg.2]; exact hst.2.2)) ?_
          refine a_take (i := 17) rfl wanted_none (y_pick_f rfl rfl) (fun w h => h) (fun w h => h) rfl (pk_seq (pk_blk (pk_seq (pk_loop (pk_blk (pk_seq pk_fn)))))) (by kernel_rfl) rfl ?_
          refine a_done (by kernel_rfl) ?_
          refine e_seq ?_
          refine w_cond_f rfl ?_
          refine w_skip ?_
          refine e_blk ?_
          refine e_seq ?_
          refine w_region ?_
          refine o_y (y_move rfl) rfl rfl ?_
          refine o_y (y_addi rfl rfl (by omega) (by omega)) rfl rfl ?_
          refine o_y (y_assign rfl) rfl rfl ?_
          refine wl_nil ?_
          refine e_back (k + 1) ?_ ?_ ⟨rfl, trivial⟩ (by repeat (first | exact trivial | refine ⟨rfl, ?_⟩)) (fun w h => h.weak (.cons _ (List.Sublist.refl _)) (fun s hs => hs))
          · omega
          · omega
        · skip
          refine wl_nil ?_
          refine e_seq ?_
          refine w_cond_f rfl ?_
          refine w_exit ?_
          refine e_seq_exit ?_
          refine e_loop_exit ?_
          refine e_blk_hit ?_
          refine e_seq ?_
          refine w_seq ?_
          refine w_region ?_
          refine o_y (y_move rfl) rfl rfl ?_
          refine o_y (y_loadrs 1 ty_52 rfl rfl rfl rfl) rfl rfl ?_
          refine o_callq rfl ent_39 rfl (c_Last (chN ix.hm n) _ _ _ _ (by omega)) (fun w hw => (rd_cons (rd_Ls 2 rfl hw) rd_nil)) ?_
          refine wl_as (t := 109) (.string (ba (chL ix.hm n))) rfl (by rw [ch_last]) ?_
          refine o_callr0 rfl ent_38 rfl (c_ref18_Find v l F d rb rH rh _ hok (by omega) (by have := ch_last_len hix hok (n := n) (by omega); omega)) (fun w hw => (rd_cons (rd_L 4 rfl hw) (rd_cons (rd_S 0 rfl hw) (rd_cons (rd_S 1 rfl hw) rd_nil)))) (fun ⟨rq, hrq⟩ => ?_)
          refine o_y (y_move rfl) rfl rfl ?_
          refine o_y (y_extract rfl rfl) rfl rfl ?_
          refine o_y (y_extract rfl rfl) rfl rfl ?_
          refine wl_splitb (t := 112) rfl (fun h18_6 => ?_) (fun h18_6 => ?_)
          · skip
            refine o_alloc ty_50 rfl rfl (fun b10 => ?_)
            refine o_store ty_50 rfl rfl rfl .z rfl rfl rfl rfl ?_
            refine o_y (y_assign rfl) rfl rfl ?_
            refine wl_nil ?_
            refine e_seq ?_
            refine w_seq ?_
            refine w_seq ?_
            have hq := ref_get hix hT hrq
            have hfs := ch_found (m := ix.hm) (n := n) (by rw [← hq.1]; exact h18_6)
            rw [← hq.2] at hfs
            have hfa := hfs.1
            refine w_region ?_
            refine o_y (y_field fa_52_1 rfl) rfl rfl ?_
            refine o_y (y_loadr 2 ty_3 rfl rfl rfl) rfl rfl ?_
            refine wl_nil ?_
            refine e_seq ?_
            refine w_block ?_
            refine w_seq ?_
            refine w_region ?_
            refine o_y (y_eql rfl rfl) rfl rfl ?_
            refine wl_af (t := 116) rfl (by omega) ?_
            refine o_y (y_assign rfl) rfl rfl ?_
            refine wl_nil ?_
            refine e_seq ?_
            refine w_cond_f rfl ?_
            refine w_seq ?_
            refine w_region ?_
            refine o_y (y_eql rfl rfl) rfl rfl ?_
            refine wl_splitp (t := 126) rfl (fun h22_0 => ?_) (fun h22_0 => ?_)
            · skip
              refine o_y (y_assign rfl) rfl rfl ?_
              refine wl_nil ?_
              refine e_seq ?_
              refine w_cond_t rfl ?_
              refine w_seq ?_
              refine w_region ?_
              refine o_y (y_move rfl) rfl rfl ?_
              refine o_y (y_move rfl) rfl rfl ?_
              refine wl_gyes rfl rfl ?_
              refine o_y (y_field fa_50_1 rfl) rfl rfl ?_
              refine wl_gyes rfl rfl ?_
              refine o_y (y_loadr 0 ty_3 rfl rfl rfl) rfl rfl ?_
              refine wl_gyes rfl rfl ?_
              refine o_y (y_neq rfl rfl) rfl rfl ?_
              refine wl_at (t := 131) rfl (show (rq.getD le0).e.kind ≠ 3 by omega) ?_
              refine o_y (y_pick_t rfl rfl) rfl rfl ?_
              refine o_y (y_move rfl) rfl rfl ?_
              refine wl_gyes rfl rfl ?_
              refine o_y (y_loadrs 0 ty_50 rfl rfl rfl rfl) rfl rfl ?_
              refine wl_gyes rfl rfl ?_
              refine o_y (y_field fa_52_2 rfl) rfl rfl ?_
              refine wl_gyes rfl rfl ?_
              refine o_y (y_loadrs 2 ty_50 rfl rfl rfl rfl) rfl rfl ?_
              refine wl_gyes rfl rfl ?_
              refine o_callq rfl ent_29 rfl (c_ref16_Same (rq.getD le0).e (rq.getD le0).A (rq.getD le0).B (rq.getD le0).c (rq.getD le0).d (chE ix.hm n).e (chE ix.hm n).A (chE ix.hm n).B (chE ix.hm n).c (chE ix.hm n).d (by have := (hok.mem (ref_mem hrq h18_6)).la; omega) (by have := (hok.mem (ref_mem hrq h18_6)).lp; omega)) (fun w hw => (rd_cons (rd_all (rd_S 1 rfl hw) (mem_flatR (ref_mem hrq h18_6) _ (elRA _))) (rd_cons (rd_all (rd_S 1 rfl hw) (mem_flatR (ref_mem hrq h18_6) _ (elRB _))) (rd_cons (rd_all (rd_L 4 rfl hw) (.tail _ (.tail _ (mem_flatR (chE_mem hix n) _ (elRA _))))) (rd_cons (rd_all (rd_L 4 rfl hw) (.tail _ (.tail _ (mem_flatR (chE_mem hix n) _ (elRB _))))) rd_nil))))) ?_
              refine wl_as (t := 137) (.bool true) rfl (congrArg Value.bool (decide_eq_true (hfs.2 (by omega)).symm)) ?_
              refine o_y (y_pick_t rfl rfl) rfl rfl ?_
              refine o_y (y_assign rfl) rfl rfl ?_
              refine wl_nil ?_
              refine e_seq ?_
              refine w_ret ?_
              refine e_blk_ret ?_
              refine e_seq_ret ?_
              refine e_ret (ts := [4]) rfl rfl rfl (fun w hw => ?_)
              exact ⟨(), rfl, hw.base, (hw.weak (List.nil_sublist _) (fun s hs => hs)).toNews⟩
            · skip
              refine o_y (y_assign rfl) rfl rfl ?_
              refine wl_nil ?_
              refine e_seq ?_
              refine w_cond_f rfl ?_
              refine w_seq ?_
              refine w_region ?_
              refine o_y (y_eql rfl rfl) rfl rfl ?_
              refine wl_af (t := 140) rfl (by omega) ?_
              refine o_y (y_assign rfl) rfl rfl ?_
              refine wl_nil ?_
              refine e_seq ?_
              refine w_cond_f rfl ?_
              refine w_seq ?_
              refine w_region ?_
              refine o_y (y_eql rfl rfl) rfl rfl ?_
              refine wl_at (t := 150) rfl (by omega) ?_
              refine o_y (y_assign rfl) rfl rfl ?_
              refine wl_nil ?_
              refine e_seq ?_
              refine w_cond_t rfl ?_
              refine w_seq ?_
              refine w_region ?_
              refine o_y (y_move rfl) rfl rfl ?_
              refine o_y (y_move rfl) rfl rfl ?_
              refine wl_gyes rfl rfl ?_
              refine o_y (y_field fa_50_1 rfl) rfl rfl ?_
              refine wl_gyes rfl rfl ?_
              refine o_y (y_loadr 0 ty_3 rfl rfl rfl) rfl rfl ?_
              refine wl_gyes rfl rfl ?_
              refine o_y (y_eql rfl rfl) rfl rfl ?_
              refine wl_at (t := 155) rfl (show (rq.getD le0).e.kind = 3 by omega) ?_
              refine o_y (y_pick_t rfl rfl) rfl rfl ?_
              refine o_y (y_move rfl) rfl rfl ?_
              refine wl_gyes rfl rfl ?_
              refine o_y (y_field fa_52_0 rfl) rfl rfl ?_
              refine wl_gyes rfl rfl ?_
              refine o_y (y_loadr 2 ty_22 rfl rfl rfl) rfl rfl ?_
              refine wl_gyes rfl rfl ?_
              refine o_y (y_lenl Try.underlying22 rfl) rfl rfl ?_
              refine wl_gyes rfl rfl ?_
              refine o_y (y_eql rfl rfl) rfl rfl ?_
              refine wl_at (t := 161) rfl (by omega) ?_
              refine o_y (y_pick_t rfl rfl) rfl rfl ?_
              refine o_y (y_assign rfl) rfl rfl ?_
              refine wl_nil ?_
              refine e_seq ?_
              refine w_ret ?_
              refine e_blk_ret ?_
              refine e_seq_ret ?_
              refine e_ret (ts := [4]) rfl rfl rfl (fun w hw => ?_)
              exact ⟨(), rfl, hw.base, (hw.weak (List.nil_sublist _) (fun s hs => hs)).toNews⟩
          · skip
            refine o_alloc ty_50 rfl rfl (fun b11 => ?_)
            refine o_store ty_50 rfl rfl rfl .z rfl rfl rfl rfl ?_
            refine o_y (y_assign rfl) rfl rfl ?_
            refine wl_nil ?_
            refine e_seq ?_
            refine w_seq ?_
            refine w_seq ?_
            have hq := ref_get hix hT hrq
            have hfs := ch_lost (m := ix.hm) (n := n) (by rw [← hq.1]; exact h18_6)
            refine w_region ?_
            refine o_y (y_field fa_52_1 rfl) rfl rfl ?_
            refine o_y (y_loadr 2 ty_3 rfl rfl rfl) rfl rfl ?_
            refine wl_nil ?_
            refine e_seq ?_
            refine w_block ?_
            refine w_seq ?_
            refine w_region ?_
            refine o_y (y_eql rfl rfl) rfl rfl ?_
            refine wl_splitp (t := 116) rfl (fun h20_0 => ?_) (fun h20_0 => ?_)
            · skip
              refine o_y (y_assign rfl) rfl rfl ?_
              refine wl_nil ?_
              refine e_seq ?_
              refine w_cond_t rfl ?_
              refine w_seq ?_
              refine w_region ?_
              refine o_y (y_move rfl) rfl rfl ?_
              refine o_y (y_not rfl) rfl rfl ?_
              refine o_y (y_move rfl) rfl rfl ?_
              refine wl_gyes rfl rfl ?_
              refine o_y (y_field fa_52_0 rfl) rfl rfl ?_
              refine wl_gyes rfl rfl ?_
              refine o_y (y_loadr 2 ty_22 rfl rfl rfl) rfl rfl ?_
              refine wl_gyes rfl rfl ?_
              refine o_y (y_lenl Try.underlying22 rfl) rfl rfl ?_
              refine wl_gyes rfl rfl ?_
              refine o_y (y_eql rfl rfl) rfl rfl ?_
              refine wl_at (t := 123) rfl (by omega) ?_
              refine o_y (y_pick_t rfl rfl) rfl rfl ?_
              refine o_y (y_assign rfl) rfl rfl ?_
              refine wl_nil ?_
              refine e_seq ?_
              refine w_ret ?_
              refine e_blk_ret ?_
              refine e_seq_ret ?_
              refine e_ret (ts := [4]) rfl rfl rfl (fun w hw => ?_)
              exact ⟨(), rfl, hw.base, (hw.weak (List.nil_sublist _) (fun s hs => hs)).toNews⟩
            · skip
              refine o_y (y_assign rfl) rfl rfl ?_
              refine wl_nil ?_
              refine e_seq ?_
              refine w_cond_f rfl ?_
              refine w_seq ?_
              refine w_region ?_
              refine o_y (y_eql rfl rfl) rfl rfl ?_
              refine wl_af (t := 126) rfl (by omega) ?_
              refine o_y (y_assign rfl) rfl rfl ?_
              refine wl_nil ?_
              refine e_seq ?_
              refine w_cond_f rfl ?_
              refine w_seq ?_
              refine w_region ?_
              refine o_y (y_eql rfl rfl) rfl rfl ?_
              refine wl_at (t := 140) rfl (by omega) ?_
              refine o_y (y_assign rfl) rfl rfl ?_
              refine wl_nil ?_
              refine e_seq ?_
              refine w_cond_t rfl ?_
              refine w_seq ?_
              refine w_region ?_
              refine o_y (y_move rfl) rfl rfl ?_
              refine o_y (y_not rfl) rfl rfl ?_
              refine o_y (y_move rfl) rfl rfl ?_
              refine wl_gyes rfl rfl ?_
              refine o_y (y_field fa_52_0 rfl) rfl rfl ?_
              refine wl_gyes rfl rfl ?_
              refine o_y (y_loadr 2 ty_22 rfl rfl rfl) rfl rfl ?_
              refine wl_gyes rfl rfl ?_
              refine o_y (y_lenl Try.underlying22 rfl) rfl rfl ?_
              refine wl_gyes rfl rfl ?_
              refine o_y (y_gtr rfl rfl) rfl rfl ?_
              refine wl_at (t := 147) rfl (by omega) ?_
              refine o_y (y_pick_t rfl rfl) rfl rfl ?_
              refine o_y (y_assign rfl) rfl rfl ?_
              refine wl_nil ?_
              refine e_seq ?_
              refine w_ret ?_
              refine e_blk_ret ?_
              refine e_seq_ret ?_
              refine e_ret (ts := [4]) rfl rfl rfl (fun w hw => ?_)
              exact ⟨(), rfl, hw.base, (hw.weak (List.nil_sublist _) (fun s hs => hs)).toNews⟩
    · skip
      refine o_y (y_not rfl) rfl rfl ?_
      refine o_y (y_move rfl) rfl rfl ?_
      refine wl_gno rfl rfl rfl rfl ?_
      refine wl_gno rfl rfl rfl rfl ?_
      refine wl_gno rfl rfl rfl rfl ?_
      refine o_y (y_pick_t rfl rfl) rfl rfl ?_
      refine wl_nil ?_
      refine e_seq ?_
      refine w_cond_t rfl ?_
      refine w_seq ?_
      refine w_region ?_
      refine o_y (y_assign rfl) rfl rfl ?_
      refine wl_nil ?_
      refine e_seq ?_
      refine w_ret ?_
      refine e_seq_ret ?_
      refine e_ret (ts := [4]) rfl rfl rfl (fun w hw => ?_)
      exact ⟨(), rfl, hw.base, (hw.weak (List.nil_sublist _) (fun s hs => hs)).toNews⟩
  · skip
    refine w_seq ?_
    refine w_region ?_
    refine o_box rfl rfl rfl (fun b12 => ?_)
    refine o_y (y_assign rfl) rfl rfl ?_
    refine wl_nil ?_
    refine e_seq ?_
    refine w_seq ?_
    refine w_seq ?_
    refine w_region ?_
    refine o_callp rfl ent_23 c_lives21 rfl ?_
    refine wl_as (t := 15) (.bool true) rfl (congrArg Value.bool rfl) ?_
    refine o_y (y_not rfl) rfl rfl ?_
    refine wl_nil ?_
    refine e_seq ?_
    refine w_cond_f rfl ?_
    refine w_skip ?_
    refine e_seq ?_
    refine w_seq ?_
    refine w_seq ?_
    refine w_region ?_
    refine o_y (y_field fa_41_1 rfl) rfl rfl ?_
    refine o_y (y_loadr 0 ty_39 rfl rfl rfl) rfl rfl ?_
    refine o_callq rfl ent_24 rfl (c_LightEntries _ _ _ _ (by omega)) (fun w hw => (rd_cons (rd_S 0 rfl hw) rd_nil)) ?_
    refine wl_splitb (t := 19) rfl (fun h3_2 => ?_) (fun h3_2 => ?_)
    · skip
      have hle9 := lightEs_le h3_2
      have hok : TbOk l := fun x hx => ⟨hen x hx, hle9.1 x hx⟩
      have hl9 := hle9.2
      refine o_y (y_not rfl) rfl rfl ?_
      refine o_y (y_move rfl) rfl rfl ?_
      refine wl_gyes rfl rfl ?_
      refine o_y (y_move rfl) rfl rfl ?_
      refine wl_gyes rfl rfl ?_
      refine o_callp rfl ent_17 (c_ref02_Check _) rfl ?_
      refine wl_gyes rfl rfl ?_
      refine o_y (y_neq rfl rfl) rfl rfl ?_
      refine wl_splitp (t := 24) rfl (fun h3_7 => ?_) (fun h3_7 => ?_)
      · skip
        refine o_y (y_pick_f rfl rfl) rfl rfl ?_
        refine wl_nil ?_
        refine e_seq ?_
        refine w_cond_t rfl ?_
        refine w_seq ?_
        refine w_region ?_
        refine o_y (y_assign rfl) rfl rfl ?_
        refine wl_nil ?_
        refine e_seq ?_
        refine w_ret ?_
        refine e_seq_ret ?_
        refine e_ret (ts := [4]) rfl rfl rfl (fun w hw => ?_)
        exact ⟨(), rfl, hw.base, (hw.weak (List.nil_sublist _) (fun s hs => hs)).toNews⟩
      · skip
        have hn0 : nameCk n = 0 := by omega
        have hnl2 := (nameCk_zero.1 hn0).1
        refine o_y (y_pick_f rfl rfl) rfl rfl ?_
        refine wl_nil ?_
        refine e_seq ?_
        refine w_cond_f rfl ?_
        refine w_skip ?_
        refine e_seq ?_
        refine w_seq ?_
        refine w_region ?_
        refine o_y (y_loadrs 0 ty_41 rfl rfl rfl rfl) rfl rfl ?_
        refine o_callq rfl ent_36 rfl (c_ref18_Newbad v l F d hok (by omega) hT _ _ _) (fun w hw => (rd_cons (rd_S 0 rfl hw) (rd_cons (rd_S 1 rfl hw) rd_nil))) ?_
        refine o_y (y_move rfl) rfl rfl ?_
        refine o_y (y_extract rfl rfl) rfl rfl ?_
        refine o_y (y_extract rfl rfl) rfl rfl ?_
        refine o_y (y_assign rfl) rfl rfl ?_
        refine o_y (y_assign rfl) rfl rfl ?_
        refine wl_nil ?_
        refine e_seq ?_
        refine w_seq ?_
        refine w_seq ?_
        refine w_region ?_
        refine o_y (y_move rfl) rfl rfl ?_
        refine o_y (y_neq rfl rfl) rfl rfl ?_
        refine wl_at (t := 32) rfl hT ?_
        refine wl_nil ?_
        refine e_seq ?_
        refine w_cond_t rfl ?_
        refine w_seq ?_
        refine w_region ?_
        refine o_y (y_assign rfl) rfl rfl ?_
        refine wl_nil ?_
        refine e_seq ?_
        refine w_ret ?_
        refine e_seq_ret ?_
        refine e_ret (ts := [4]) rfl rfl rfl (fun w hw => ?_)
        exact ⟨(), rfl, hw.base, (hw.weak (List.nil_sublist _) (fun s hs => hs)).toNews⟩
    · skip
      refine o_y (y_not rfl) rfl rfl ?_
      refine o_y (y_move rfl) rfl rfl ?_
      refine wl_gno rfl rfl rfl rfl ?_
      refine wl_gno rfl rfl rfl rfl ?_
      refine wl_gno rfl rfl rfl rfl ?_
      refine o_y (y_pick_t rfl rfl) rfl rfl ?_
      refine wl_nil ?_
      refine e_seq ?_
      refine w_cond_t rfl ?_
      refine w_seq ?_
      refine w_region ?_
      refine o_y (y_assign rfl) rfl rfl ?_
      refine wl_nil ?_
      refine e_seq ?_
      refine w_ret ?_
      refine e_seq_ret ?_
      refine e_ret (ts := [4]) rfl rfl rfl (fun w hw => ?_)
      exact ⟨(), rfl, hw.base, (hw.weak (List.nil_sublist _) (fun s hs => hs)).toNews⟩
end Go.Proofs.Ytckfjfnkombelaa
