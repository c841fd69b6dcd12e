/- the laws of chains -/
import Derived.Test.YtckfjfnkombelaaHcQCR18
namespace Go.Proofs.Ytckfjfnkombelaa
open Go.RowKit Go.Shelf
set_option linter.unusedVariables false
set_option linter.unusedSimpArgs false

theorem ent_23 : Enters Try.prog 23 := enters_of Try.func23 (by kernel_rfl) rfl
theorem ent_27 : Enters Try.prog 27 := enters_of Try.func27 (by kernel_rfl) rfl
theorem ent_29 : Enters Try.prog 29 := enters_of Try.func29 (by kernel_rfl) rfl

theorem ch_rest_st {m : List (Str × Le)} {n : Str} {i : Nat} (h : i < (chN m n).length) (h3 : chS m n ≠ 3) (hne : chS m ((chN m n).getD i []) ≠ chS m n) : chS m n = 2 ∧ chS m ((chN m n).getD i []) = 0 ∧ ((chN m n).drop i).length = 1 := by
  obtain ⟨h4, h5⟩ := (ch_rest h).2.2.2 h3
  have hl : 1 ≤ ((chN m n).drop i).length := by rw [List.length_drop]; omega
  have hl2 : ((chN m n).drop i).length ≤ (chN m n).length := by rw [List.length_drop]; omega
  have e2 : chS m ((chN m n).getD i []) = stN (findI m (chL m n)) ((chN m n).drop i).length := by rw [chS, h5, h4]
  have e1 : chS m n = stN (findI m (chL m n)) (chN m n).length := rfl
  rw [e2, e1] at hne
  rw [e2, e1]
  cases hf : findI m (chL m n) with
  | some x => rw [hf] at hne; exact absurd rfl hne
  | none =>
    rw [hf] at hne
    simp only [stN] at hne ⊢
    by_cases c1 : 1 < ((chN m n).drop i).length
    · rw [if_pos c1, if_pos (by omega)] at hne; exact absurd rfl hne
    · rw [if_neg c1] at hne ⊢
      by_cases c2 : 1 < (chN m n).length
      · rw [if_pos c2]; exact ⟨rfl, rfl, by omega⟩
      · rw [if_neg c2] at hne; exact absurd rfl hne

set_option maxRecDepth 100000 in
set_option maxHeartbeats 4000000 in
theorem c_ChaseRest (v : Int) (l : List Le) (F : Option Addr) (d : Nat) (n : Str) (kq : Int) (hnl : n.length ≤ 9223372036854775807) (hen : ∀ x ∈ l, EnOk x.e) (hll : l.length ≤ 9223372036854775807) : RC Try.prog 5 #[.agg (tbC v F l.length d).toArray, .string (ba n), .int .i64 kq] [Ch.rd F 7 elC l, Ch.rall (l.flatMap elR)] (α := Unit) (fun _ => .bool true) (fun _ => []) := by
  refine rc_of_W (args := [.agg (tbC v F l.length d).toArray, .string (ba n), .int .i64 kq]) 110 Try.func5 rfl rfl rfl (fun w0 => ?_)
  rcases Decidable.em (tabCk v l = 0) with hT | hT
  · skip
    refine w_seq ?_
    refine w_region ?_
    refine o_box rfl rfl rfl (fun b1 => ?_)
    refine o_y (y_assign rfl) rfl rfl ?_
    refine wl_nil ?_
    refine e_seq ?_
    refine w_seq ?_
    refine w_seq ?_
    refine w_region ?_
    refine o_callp rfl ent_23 c_lives21 rfl ?_
    refine wl_as (t := 12) (.bool true) rfl (congrArg Value.bool rfl) ?_
    refine o_y (y_not rfl) rfl rfl ?_
    refine wl_nil ?_
    refine e_seq ?_
    refine w_cond_f rfl ?_
    refine w_skip ?_
    refine e_seq ?_
    refine w_seq ?_
    refine w_seq ?_
    refine w_region ?_
    refine o_y (y_field fa_41_1 rfl) rfl rfl ?_
    refine o_y (y_loadr 0 ty_39 rfl rfl rfl) rfl rfl ?_
    refine o_callq rfl ent_24 rfl (c_LightEntries _ _ _ _ (by omega)) (fun w hw => (rd_cons (rd_S 0 rfl hw) rd_nil)) ?_
    refine wl_splitb (t := 16) rfl (fun h3_2 => ?_) (fun h3_2 => ?_)
    · skip
      have hle9 := lightEs_le h3_2
      have hok : TbOk l := fun x hx => ⟨hen x hx, hle9.1 x hx⟩
      have hl9 := hle9.2
      refine o_y (y_not rfl) rfl rfl ?_
      refine o_y (y_move rfl) rfl rfl ?_
      refine wl_gyes rfl rfl ?_
      refine o_y (y_move rfl) rfl rfl ?_
      refine wl_gyes rfl rfl ?_
      refine o_callp rfl ent_17 (c_ref02_Check _) rfl ?_
      refine wl_gyes rfl rfl ?_
      refine o_y (y_neq rfl rfl) rfl rfl ?_
      refine wl_splitp (t := 21) rfl (fun h3_7 => ?_) (fun h3_7 => ?_)
      · skip
        refine o_y (y_pick_f rfl rfl) rfl rfl ?_
        refine wl_nil ?_
        refine e_seq ?_
        refine w_cond_t rfl ?_
        refine w_seq ?_
        refine w_region ?_
        refine o_y (y_assign rfl) rfl rfl ?_
        refine wl_nil ?_
        refine e_seq ?_
        refine w_ret ?_
        refine e_seq_ret ?_
        refine e_ret (ts := [6]) rfl rfl rfl (fun w hw => ?_)
        exact ⟨(), rfl, hw.base, (hw.weak (List.nil_sublist _) (fun s hs => hs)).toNews⟩
      · skip
        have hn0 : nameCk n = 0 := by omega
        have hnl2 := (nameCk_zero.1 hn0).1
        refine o_y (y_pick_f rfl rfl) rfl rfl ?_
        refine wl_nil ?_
        refine e_seq ?_
        refine w_cond_f rfl ?_
        refine w_skip ?_
        refine e_seq ?_
        refine w_seq ?_
        refine w_region ?_
        refine o_y (y_loadrs 0 ty_41 rfl rfl rfl rfl) rfl rfl ?_
        refine o_callr1 rfl ent_25 rfl (c_index_New0 v l F d hok (by omega) hT) (fun w hw => (rd_cons (rd_S 0 rfl hw) (rd_cons (rd_S 1 rfl hw) rd_nil))) (fun ⟨ix, hix⟩ => ?_)
        refine wl_heap (fun w h => h.ixOpen) ?_
        refine o_y (y_move rfl) rfl rfl ?_
        refine o_y (y_extract rfl rfl) rfl rfl ?_
        refine o_y (y_extract rfl rfl) rfl rfl ?_
        refine o_y (y_assign rfl) rfl rfl ?_
        refine o_y (y_assign rfl) rfl rfl ?_
        refine wl_nil ?_
        refine e_seq ?_
        refine w_seq ?_
        refine w_seq ?_
        refine w_region ?_
        refine o_y (y_move rfl) rfl rfl ?_
        refine o_y (y_neq rfl rfl) rfl rfl ?_
        refine wl_af (t := 29) rfl (fun h9 => h9 rfl) ?_
        refine wl_nil ?_
        refine e_seq ?_
        refine w_cond_f rfl ?_
        refine w_skip ?_
        refine e_seq ?_
        refine w_seq ?_
        refine w_region ?_
        refine o_y (y_move rfl) rfl rfl ?_
        refine o_y (y_move rfl) rfl rfl ?_
        refine o_callr1 rfl ent_26 rfl (c_Follow ix n) (fun w hw => (rd_cons (rd_all (rd_L 0 rfl hw) (.head _)) (rd_cons (rd_all (rd_L 0 rfl hw) (.tail _ (.head _))) rd_nil))) (fun ⟨A2, c2⟩ => ?_)
        refine o_alloc ty_52 rfl rfl (fun b4 => ?_)
        refine o_store ty_52 rfl rfl rfl .z rfl rfl rfl rfl ?_
        refine wl_nil ?_
        refine e_seq ?_
        refine w_seq ?_
        refine w_seq ?_
        refine w_region ?_
        refine o_y (y_field fa_52_0 rfl) rfl rfl ?_
        refine o_y (y_loadr 0 ty_22 rfl rfl rfl) rfl rfl ?_
        refine o_y (y_lenl Try.underlying22 rfl) rfl rfl ?_
        refine o_y (y_lss rfl rfl) rfl rfl ?_
        refine wl_af (t := 36) rfl (by have := ch_len ix.hm n; omega) ?_
        refine wl_nil ?_
        refine e_seq ?_
        refine w_cond_f rfl ?_
        refine w_skip ?_
        refine e_seq ?_
        refine w_seq ?_
        have hcl := ch_len ix.hm n
        have hpv := pickI_val (n := kq) (m := ((chN ix.hm n).length : Int)) (by omega)
        obtain ⟨kk, hkk⟩ : ∃ kk : Nat, pickI kq ((chN ix.hm n).length : Int) = kk := ⟨(pickI kq ((chN ix.hm n).length : Int)).toNat, by omega⟩
        have hkl : kk < (chN ix.hm n).length := by omega
        have hr := ch_rest (m := ix.hm) hkl
        have hcl2 := ch_len ix.hm ((chN ix.hm n).getD kk [])
        refine w_region ?_
        refine o_y (y_move rfl) rfl rfl ?_
        refine o_y (y_field fa_52_0 rfl) rfl rfl ?_
        refine o_y (y_loadr 0 ty_22 rfl rfl rfl) rfl rfl ?_
        refine o_y (y_lenl Try.underlying22 rfl) rfl rfl ?_
        refine o_callp rfl ent_27 (c_kit_Pick _ _ (by omega) (by have := ch_len ix.hm n; omega)) rfl ?_
        refine o_y (y_assign rfl) rfl rfl ?_
        refine wl_nil ?_
        refine e_seq ?_
        refine w_seq ?_
        refine w_region ?_
        refine o_y (y_move rfl) rfl rfl ?_
        refine o_y (y_field fa_52_0 rfl) rfl rfl ?_
        refine o_y (y_loadr 0 ty_22 rfl rfl rfl) rfl rfl ?_
        refine o_y (y_move rfl) rfl rfl ?_
        refine o_y (y_ixm (k := kk) Try.underlying22 ty_25 rfl rfl (rs_L 1 rfl) hkk (by omega)) rfl rfl ?_
        refine o_y (y_ldm0 enc_s ([] : Str) ty_25 rfl (rs_L 1 rfl) (by omega) rfl rfl) rfl rfl ?_
        refine o_callr1 rfl ent_26 rfl (c_Follow ix ((chN ix.hm n).getD kk [])) (fun w hw => (rd_cons (rd_all (rd_L 2 rfl hw) (.head _)) (rd_cons (rd_all (rd_L 2 rfl hw) (.tail _ (.head _))) rd_nil))) (fun ⟨A4, c4⟩ => ?_)
        refine o_alloc ty_52 rfl rfl (fun b6 => ?_)
        refine o_store ty_52 rfl rfl rfl .z rfl rfl rfl rfl ?_
        refine wl_nil ?_
        refine e_seq ?_
        refine w_seq ?_
        refine w_region ?_
        refine o_y (y_field fa_52_0 rfl) rfl rfl ?_
        refine o_y (y_loadr 2 ty_22 rfl rfl rfl) rfl rfl ?_
        refine o_y (y_move rfl) rfl rfl ?_
        refine o_y (y_drop (m := kk) Try.underlying22 ty_25 rfl rfl hkk (by omega)) rfl rfl ?_
        refine o_y (y_assign rfl) rfl rfl ?_
        refine wl_nil ?_
        refine e_seq ?_
        refine w_seq ?_
        refine w_seq ?_
        refine w_region ?_
        refine o_y (y_field fa_52_0 rfl) rfl rfl ?_
        refine o_y (y_loadr 0 ty_22 rfl rfl rfl) rfl rfl ?_
        refine o_y (y_lenl Try.underlying22 rfl) rfl rfl ?_
        refine o_y (y_move rfl) rfl rfl ?_
        refine o_y (y_lenl Try.underlying22 rfl) rfl rfl ?_
        refine o_y (y_lss rfl rfl) rfl rfl ?_
        refine wl_af (t := 58) rfl (by have := hr.1; omega) ?_
        refine o_y (y_move rfl) rfl rfl ?_
        refine wl_gyes rfl rfl ?_
        refine o_y (y_field fa_52_0 rfl) rfl rfl ?_
        refine wl_gyes rfl rfl ?_
        refine o_y (y_loadr 0 ty_22 rfl rfl rfl) rfl rfl ?_
        refine wl_gyes rfl rfl ?_
        refine o_y (y_move rfl) rfl rfl ?_
        refine wl_gyes rfl rfl ?_
        refine o_y (y_lenl Try.underlying22 rfl) rfl rfl ?_
        refine wl_gyes rfl rfl ?_
        refine o_y (y_takes (m := ((chN ix.hm n).drop kk).length) Try.underlying22 ty_25 rfl rfl rfl hr.1 (cap_L 1 rfl)) rfl rfl ?_
        refine wl_gyes rfl rfl ?_
        refine o_y (y_move rfl) rfl rfl ?_
        refine wl_gyes rfl rfl ?_
        refine o_callq rfl ent_28 rfl (c_kit_Same_n _ _ _ _ _ _ (by rw [List.length_take]; have := ch_len ix.hm ((chN ix.hm n).getD kk []); omega)) (fun w hw => (rd_cons (rd_takeL enc_s 1 rfl hr.1 hw) (rd_cons (rd_dropL enc_s 3 rfl (by omega) hw) rd_nil))) ?_
        refine wl_as (t := 66) (.bool true) rfl (congrArg Value.bool (decide_eq_true hr.2.1)) ?_
        refine wl_gyes rfl rfl ?_
        refine o_y (y_not rfl) rfl rfl ?_
        refine o_y (y_pick_f rfl rfl) rfl rfl ?_
        refine wl_nil ?_
        refine e_seq ?_
        refine w_cond_f rfl ?_
        refine w_skip ?_
        refine e_seq ?_
        refine w_seq ?_
        refine w_seq ?_
        refine w_region ?_
        refine o_y (y_field fa_52_1 rfl) rfl rfl ?_
        refine o_y (y_loadr 2 ty_3 rfl rfl rfl) rfl rfl ?_
        refine o_y (y_eql rfl rfl) rfl rfl ?_
        refine wl_splitp (t := 71) rfl (fun h16_2 => ?_) (fun h16_2 => ?_)
        · skip
          refine wl_nil ?_
          refine e_seq ?_
          refine w_cond_t rfl ?_
          refine w_seq ?_
          refine w_region ?_
          refine o_y (y_field fa_52_1 rfl) rfl rfl ?_
          refine o_y (y_loadr 0 ty_3 rfl rfl rfl) rfl rfl ?_
          refine o_y (y_neq rfl rfl) rfl rfl ?_
          refine wl_at (t := 74) rfl (hr.2.2.1 h16_2) ?_
          refine o_y (y_assign rfl) rfl rfl ?_
          refine wl_nil ?_
          refine e_seq ?_
          refine w_ret ?_
          refine e_seq_ret ?_
          refine e_ret (ts := [6]) rfl rfl rfl (fun w hw => ?_)
          exact ⟨(), rfl, hw.base, (hw.weak (List.nil_sublist _) (fun s hs => hs)).toNews⟩
        · skip
          refine wl_nil ?_
          refine e_seq ?_
          refine w_cond_f rfl ?_
          refine w_skip ?_
          refine e_seq ?_
          refine w_seq ?_
          refine w_region ?_
          refine o_y (y_field fa_52_0 rfl) rfl rfl ?_
          refine o_y (y_loadr 0 ty_22 rfl rfl rfl) rfl rfl ?_
          refine o_y (y_lenl Try.underlying22 rfl) rfl rfl ?_
          refine o_y (y_move rfl) rfl rfl ?_
          refine o_y (y_lenl Try.underlying22 rfl) rfl rfl ?_
          refine o_y (y_eql rfl rfl) rfl rfl ?_
          refine wl_at (t := 80) rfl (by rw [(hr.2.2.2 h16_2).1]) ?_
          refine o_y (y_move rfl) rfl rfl ?_
          refine wl_gyes rfl rfl ?_
          refine o_y (y_field fa_52_1 rfl) rfl rfl ?_
          refine wl_gyes rfl rfl ?_
          refine o_y (y_loadr 0 ty_3 rfl rfl rfl) rfl rfl ?_
          refine wl_gyes rfl rfl ?_
          refine o_y (y_field fa_52_1 rfl) rfl rfl ?_
          refine wl_gyes rfl rfl ?_
          refine o_y (y_loadr 2 ty_3 rfl rfl rfl) rfl rfl ?_
          refine wl_gyes rfl rfl ?_
          refine o_y (y_eql rfl rfl) rfl rfl ?_
          refine wl_splitp (t := 86) rfl (fun h18_11 => ?_) (fun h18_11 => ?_)
          · skip
            refine wl_gyes rfl rfl ?_
            refine o_y (y_move rfl) rfl rfl ?_
            refine wl_gno rfl rfl rfl rfl ?_
            refine wl_gno rfl rfl rfl rfl ?_
            refine wl_gno rfl rfl rfl rfl ?_
            refine wl_gno rfl rfl rfl rfl ?_
            refine wl_gnou rfl rfl rfl ?_
            refine wl_gnou rfl rfl rfl ?_
            refine wl_gnou rfl rfl rfl ?_
            refine wl_gno rfl rfl rfl rfl ?_
            refine wl_gno rfl rfl rfl rfl ?_
            refine wl_gnou rfl rfl rfl ?_
            refine wl_gnou rfl rfl rfl ?_
            refine wl_gnou rfl rfl rfl ?_
            refine wl_gno rfl rfl rfl rfl ?_
            refine wl_gyes rfl rfl ?_
            refine o_y (y_pick_t rfl rfl) rfl rfl ?_
            refine o_y (y_pick_t rfl rfl) rfl rfl ?_
            refine o_y (y_move rfl) rfl rfl ?_
            refine wl_gyes rfl rfl ?_
            refine o_y (y_field fa_52_2 rfl) rfl rfl ?_
            refine wl_gyes rfl rfl ?_
            refine o_y (y_loadrs 0 ty_50 rfl rfl rfl rfl) rfl rfl ?_
            refine wl_gyes rfl rfl ?_
            refine o_y (y_field fa_52_2 rfl) rfl rfl ?_
            refine wl_gyes rfl rfl ?_
            refine o_y (y_loadrs 2 ty_50 rfl rfl rfl rfl) rfl rfl ?_
            refine wl_gyes rfl rfl ?_
            refine o_callq rfl ent_29 rfl (c_ref16_Same (chE ix.hm ((chN ix.hm n).getD kk [])).e (chE ix.hm ((chN ix.hm n).getD kk [])).A (chE ix.hm ((chN ix.hm n).getD kk [])).B (chE ix.hm ((chN ix.hm n).getD kk [])).c (chE ix.hm ((chN ix.hm n).getD kk [])).d (chE ix.hm n).e (chE ix.hm n).A (chE ix.hm n).B (chE ix.hm n).c (chE ix.hm n).d (by have := (ix_bnd hix hok (chE_mem hix ((chN ix.hm n).getD kk []))).la; omega) (by have := (ix_bnd hix hok (chE_mem hix ((chN ix.hm n).getD kk []))).lp; omega)) (fun w hw => (rd_cons (rd_all (rd_L 4 rfl hw) (.tail _ (.tail _ (mem_flatR (chE_mem hix ((chN ix.hm n).getD kk [])) _ (elRA _))))) (rd_cons (rd_all (rd_L 4 rfl hw) (.tail _ (.tail _ (mem_flatR (chE_mem hix ((chN ix.hm n).getD kk [])) _ (elRB _))))) (rd_cons (rd_all (rd_L 4 rfl hw) (.tail _ (.tail _ (mem_flatR (chE_mem hix n) _ (elRA _))))) (rd_cons (rd_all (rd_L 4 rfl hw) (.tail _ (.tail _ (mem_flatR (chE_mem hix n) _ (elRB _))))) rd_nil))))) ?_
            refine wl_as (t := 108) (.bool true) rfl (congrArg Value.bool (decide_eq_true (by rw [chE, chE, (hr.2.2.2 h16_2).2]))) ?_
            refine o_y (y_pick_t rfl rfl) rfl rfl ?_
            refine o_y (y_assign rfl) rfl rfl ?_
            refine wl_nil ?_
            refine e_seq ?_
            refine w_ret ?_
            refine e_ret (ts := [6]) rfl rfl rfl (fun w hw => ?_)
            exact ⟨(), rfl, hw.base, (hw.weak (List.nil_sublist _) (fun s hs => hs)).toNews⟩
          · skip
            refine wl_gyes rfl rfl ?_
            refine o_y (y_move rfl) rfl rfl ?_
            refine wl_gyes rfl rfl ?_
            refine o_y (y_field fa_52_1 rfl) rfl rfl ?_
            refine wl_gyes rfl rfl ?_
            refine o_y (y_loadr 2 ty_3 rfl rfl rfl) rfl rfl ?_
            refine wl_gyes rfl rfl ?_
            refine o_y (y_eql rfl rfl) rfl rfl ?_
            refine wl_at (t := 90) rfl (ch_rest_st hkl h16_2 h18_11).1 ?_
            refine wl_gyes rfl rfl ?_
            refine o_y (y_move rfl) rfl rfl ?_
            refine wl_gyes rfl rfl ?_
            refine o_y (y_field fa_52_1 rfl) rfl rfl ?_
            refine wl_gyes rfl rfl ?_
            refine o_y (y_loadr 0 ty_3 rfl rfl rfl) rfl rfl ?_
            refine wl_gyes rfl rfl ?_
            refine o_y (y_eql rfl rfl) rfl rfl ?_
            refine wl_at (t := 94) rfl (ch_rest_st hkl h16_2 h18_11).2.1 ?_
            refine wl_gyes rfl rfl ?_
            refine o_y (y_pick_t rfl rfl) rfl rfl ?_
            refine wl_gyes rfl rfl ?_
            refine o_y (y_move rfl) rfl rfl ?_
            refine wl_gyes rfl rfl ?_
            refine o_y (y_move rfl) rfl rfl ?_
            refine wl_gyes rfl rfl ?_
            refine o_y (y_lenl Try.underlying22 rfl) rfl rfl ?_
            refine wl_gyes rfl rfl ?_
            refine o_y (y_eql rfl rfl) rfl rfl ?_
            refine wl_at (t := 99) rfl (by have := (ch_rest_st hkl h16_2 h18_11).2.2; omega) ?_
            refine wl_gyes rfl rfl ?_
            refine o_y (y_pick_t rfl rfl) rfl rfl ?_
            refine wl_gyes rfl rfl ?_
            refine o_y (y_pick_f rfl rfl) rfl rfl ?_
            refine o_y (y_pick_t rfl rfl) rfl rfl ?_
            refine o_y (y_move rfl) rfl rfl ?_
            refine wl_gyes rfl rfl ?_
            refine o_y (y_field fa_52_2 rfl) rfl rfl ?_
            refine wl_gyes rfl rfl ?_
            refine o_y (y_loadrs 0 ty_50 rfl rfl rfl rfl) rfl rfl ?_
            refine wl_gyes rfl rfl ?_
            refine o_y (y_field fa_52_2 rfl) rfl rfl ?_
            refine wl_gyes rfl rfl ?_
            refine o_y (y_loadrs 2 ty_50 rfl rfl rfl rfl) rfl rfl ?_
            refine wl_gyes rfl rfl ?_
            refine o_callq rfl ent_29 rfl (c_ref16_Same (chE ix.hm ((chN ix.hm n).getD kk [])).e (chE ix.hm ((chN ix.hm n).getD kk [])).A (chE ix.hm ((chN ix.hm n).getD kk [])).B (chE ix.hm ((chN ix.hm n).getD kk [])).c (chE ix.hm ((chN ix.hm n).getD kk [])).d (chE ix.hm n).e (chE ix.hm n).A (chE ix.hm n).B (chE ix.hm n).c (chE ix.hm n).d (by have := (ix_bnd hix hok (chE_mem hix ((chN ix.hm n).getD kk []))).la; omega) (by have := (ix_bnd hix hok (chE_mem hix ((chN ix.hm n).getD kk []))).lp; omega)) (fun w hw => (rd_cons (rd_all (rd_L 4 rfl hw) (.tail _ (.tail _ (mem_flatR (chE_mem hix ((chN ix.hm n).getD kk [])) _ (elRA _))))) (rd_cons (rd_all (rd_L 4 rfl hw) (.tail _ (.tail _ (mem_flatR (chE_mem hix ((chN ix.hm n).getD kk [])) _ (elRB _))))) (rd_cons (rd_all (rd_L 4 rfl hw) (.tail _ (.tail _ (mem_flatR (chE_mem hix n) _ (elRA _))))) (rd_cons (rd_all (rd_L 4 rfl hw) (.tail _ (.tail _ (mem_flatR (chE_mem hix n) _ (elRB _))))) rd_nil))))) ?_
            refine wl_as (t := 108) (.bool true) rfl (congrArg Value.bool (decide_eq_true (by rw [chE, chE, (hr.2.2.2 h16_2).2]))) ?_
            refine o_y (y_pick_t rfl rfl) rfl rfl ?_
            refine o_y (y_assign rfl) rfl rfl ?_
            refine wl_nil ?_
            refine e_seq ?_
            refine w_ret ?_
            refine e_ret (ts := [6]) rfl rfl rfl (fun w hw => ?_)
            exact ⟨(), rfl, hw.base, (hw.weak (List.nil_sublist _) (fun s hs => hs)).toNews⟩
    · skip
      refine o_y (y_not rfl) rfl rfl ?_
      refine o_y (y_move rfl) rfl rfl ?_
      refine wl_gno rfl rfl rfl rfl ?_
      refine wl_gno rfl rfl rfl rfl ?_
      refine wl_gno rfl rfl rfl rfl ?_
      refine o_y (y_pick_t rfl rfl) rfl rfl ?_
      refine wl_nil ?_
      refine e_seq ?_
      refine w_cond_t rfl ?_
      refine w_seq ?_
      refine w_region ?_
      refine o_y (y_assign rfl) rfl rfl ?_
      refine wl_nil ?_
      refine e_seq ?_
      refine w_ret ?_
      refine e_seq_ret ?_
      refine e_ret (ts := [6]) rfl rfl rfl (fun w hw => ?_)
      exact ⟨(), rfl, hw.base, (hw.weak (List.nil_sublist _) (fun s hs => hs)).toNews⟩
  · skip
    refine w_seq ?_
    refine w_region ?_
    refine o_box rfl rfl rfl (fun b7 => ?_)
    refine o_y (y_assign rfl) rfl rfl ?_
    refine wl_nil ?_
    refine e_seq ?_
    refine w_seq ?_
    refine w_seq ?_
    refine w_region ?_
    refine o_callp rfl ent_23 c_lives21 rfl ?_
    refine wl_as (t := 12) (.bool true) rfl (congrArg Value.bool rfl) ?_
    refine o_y (y_not rfl) rfl rfl ?_
    refine wl_nil ?_
    refine e_seq ?_
    refine w_cond_f rfl ?_
    refine w_skip ?_
    refine e_seq ?_
    refine w_seq ?_
    refine w_seq ?_
    refine w_region ?_
    refine o_y (y_field fa_41_1 rfl) rfl rfl ?_
    refine o_y (y_loadr 0 ty_39 rfl rfl rfl) rfl rfl ?_
    refine o_callq rfl ent_24 rfl (c_LightEntries _ _ _ _ (by omega)) (fun w hw => (rd_cons (rd_S 0 rfl hw) rd_nil)) ?_
    refine wl_splitb (t := 16) rfl (fun h3_2 => ?_) (fun h3_2 => ?_)
    · skip
      have hle9 := lightEs_le h3_2
      have hok : TbOk l := fun x hx => ⟨hen x hx, hle9.1 x hx⟩
      have hl9 := hle9.2
      refine o_y (y_not rfl) rfl rfl ?_
      refine o_y (y_move rfl) rfl rfl ?_
      refine wl_gyes rfl rfl ?_
      refine o_y (y_move rfl) rfl rfl ?_
      refine wl_gyes rfl rfl ?_
      refine o_callp rfl ent_17 (c_ref02_Check _) rfl ?_
      refine wl_gyes rfl rfl ?_
      refine o_y (y_neq rfl rfl) rfl rfl ?_
      refine wl_splitp (t := 21) rfl (fun h3_7 => ?_) (fun h3_7 => ?_)
      · skip
        refine o_y (y_pick_f rfl rfl) rfl rfl ?_
        refine wl_nil ?_
        refine e_seq ?_
        refine w_cond_t rfl ?_
        refine w_seq ?_
        refine w_region ?_
        refine o_y (y_assign rfl) rfl rfl ?_
        refine wl_nil ?_
        refine e_seq ?_
        refine w_ret ?_
        refine e_seq_ret ?_
        refine e_ret (ts := [6]) rfl rfl rfl (fun w hw => ?_)
        exact ⟨(), rfl, hw.base, (hw.weak (List.nil_sublist _) (fun s hs => hs)).toNews⟩
      · skip
        have hn0 : nameCk n = 0 := by omega
        have hnl2 := (nameCk_zero.1 hn0).1
        refine o_y (y_pick_f rfl rfl) rfl rfl ?_
        refine wl_nil ?_
        refine e_seq ?_
        refine w_cond_f rfl ?_
        refine w_skip ?_
        refine e_seq ?_
        refine w_seq ?_
        refine w_region ?_
        refine o_y (y_loadrs 0 ty_41 rfl rfl rfl rfl) rfl rfl ?_
        refine o_callq rfl ent_25 rfl (c_index_Newbad v l F d hok (by omega) hT _ _ _) (fun w hw => (rd_cons (rd_S 0 rfl hw) (rd_cons (rd_S 1 rfl hw) rd_nil))) ?_
        refine o_y (y_move rfl) rfl rfl ?_
        refine o_y (y_extract rfl rfl) rfl rfl ?_
        refine o_y (y_extract rfl rfl) rfl rfl ?_
        refine o_y (y_assign rfl) rfl rfl ?_
        refine o_y (y_assign rfl) rfl rfl ?_
        refine wl_nil ?_
        refine e_seq ?_
        refine w_seq ?_
        refine w_seq ?_
        refine w_region ?_
        refine o_y (y_move rfl) rfl rfl ?_
        refine o_y (y_neq rfl rfl) rfl rfl ?_
        refine wl_at (t := 29) rfl hT ?_
        refine wl_nil ?_
        refine e_seq ?_
        refine w_cond_t rfl ?_
        refine w_seq ?_
        refine w_region ?_
        refine o_y (y_assign rfl) rfl rfl ?_
        refine wl_nil ?_
        refine e_seq ?_
        refine w_ret ?_
        refine e_seq_ret ?_
        refine e_ret (ts := [6]) rfl rfl rfl (fun w hw => ?_)
        exact ⟨(), rfl, hw.base, (hw.weak (List.nil_sublist _) (fun s hs => hs)).toNews⟩
    · skip
      refine o_y (y_not rfl) rfl rfl ?_
      refine o_y (y_move rfl) rfl rfl ?_
      refine wl_gno rfl rfl rfl rfl ?_
      refine wl_gno rfl rfl rfl rfl ?_
      refine wl_gno rfl rfl rfl rfl ?_
      refine o_y (y_pick_t rfl rfl) rfl rfl ?_
      refine wl_nil ?_
      refine e_seq ?_
      refine w_cond_t rfl ?_
      refine w_seq ?_
      refine w_region ?_
      refine o_y (y_assign rfl) rfl rfl ?_
      refine wl_nil ?_
      refine e_seq ?_
      refine w_ret ?_
      refine e_seq_ret ?_
      refine e_ret (ts := [6]) rfl rfl rfl (fun w hw => ?_)
      exact ⟨(), rfl, hw.base, (hw.weak (List.nil_sublist _) (fun s hs => hs)).toNews⟩
end Go.Proofs.Ytckfjfnkombelaa
