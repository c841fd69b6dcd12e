/- the law of what an index finds -/
import Derived.Test.YtckfjfnkombelaaJdQF
namespace Go.Proofs.Ytckfjfnkombelaa
open Go.RowKit Go.Shelf
set_option linter.unusedVariables false
set_option linter.unusedSimpArgs false

theorem ent_29 : Enters Try.prog 29 := enters_of Try.func29 (by kernel_rfl) rfl
theorem ent_30 : Enters Try.prog 30 := enters_of Try.func30 (by kernel_rfl) rfl
theorem ent_31 : Enters Try.prog 31 := enters_of Try.func31 (by kernel_rfl) rfl
theorem ent_33 : Enters Try.prog 33 := enters_of Try.func33 (by kernel_rfl) rfl
theorem ent_34 : Enters Try.prog 34 := enters_of Try.func34 (by kernel_rfl) rfl

set_option maxRecDepth 100000 in
set_option maxHeartbeats 1000000 in
theorem c_IndexFinds (v : Int) (l : List Le) (F : Option Addr) (d : Nat) (hs : List Hd) (Q : Option Addr) (qc : Nat) (n : Str) (hnl : n.length ≤ 9223372036854775807) (hen : ∀ x ∈ l, EnOk x.e) (hll : l.length ≤ 9223372036854775807) (hhen : ∀ h ∈ hs, h.host.length ≤ 9223372036854775807 ∧ AdOk h.ad) (hhl : hs.length ≤ 9223372036854775807) : RC Try.prog 6 #[.agg (tbC v F l.length d).toArray, .slice Q hs.length qc, .string (ba n)] [Ch.rd F 7 elC l, Ch.rall (l.flatMap elR), Ch.rd Q 4 hdC hs] (α := Unit) (fun _ => .bool true) (fun _ => []) := by
  refine rc_of_W (args := [.agg (tbC v F l.length d).toArray, .slice Q hs.length qc, .string (ba n)]) 184 Try.func6 rfl rfl rfl (fun w0 => ?_)
  rcases Decidable.em (tabCk v l = 0) with hT | hT
  · skip
    refine w_seq ?_
    refine w_region ?_
    refine o_box rfl rfl rfl (fun b1 => ?_)
    refine o_y (y_assign rfl) rfl rfl ?_
    refine wl_nil ?_
    refine e_seq ?_
    refine w_seq ?_
    refine w_seq ?_
    refine w_region ?_
    refine o_callp rfl ent_30 c_lives18 rfl ?_
    refine wl_as (t := 24) (.bool true) rfl (congrArg Value.bool rfl) ?_
    refine o_y (y_not rfl) rfl rfl ?_
    refine wl_nil ?_
    refine e_seq ?_
    refine w_cond_f rfl ?_
    refine w_skip ?_
    refine e_seq ?_
    refine w_seq ?_
    refine w_seq ?_
    refine w_region ?_
    refine o_y (y_field fa_41_1 rfl) rfl rfl ?_
    refine o_y (y_loadr 0 ty_39 rfl rfl rfl) rfl rfl ?_
    refine o_callq rfl ent_24 rfl (c_LightEntries _ _ _ _ (by omega)) (fun w hw => (rd_cons (rd_S 0 rfl hw) rd_nil)) ?_
    refine wl_splitb (t := 28) rfl (fun h3_2 => ?_) (fun h3_2 => ?_)
    · skip
      have hle9 := lightEs_le h3_2
      have hok : TbOk l := fun x hx => ⟨hen x hx, hle9.1 x hx⟩
      have hl9 := hle9.2
      refine o_y (y_not rfl) rfl rfl ?_
      refine o_y (y_move rfl) rfl rfl ?_
      refine wl_gyes rfl rfl ?_
      refine o_y (y_move rfl) rfl rfl ?_
      refine wl_gyes rfl rfl ?_
      refine o_callq rfl ent_31 rfl (c_LightHeld _ _ _ _ (by omega)) (fun w hw => (rd_cons (rd_S 2 rfl hw) rd_nil)) ?_
      refine wl_splitb (t := 32) rfl (fun h3_6 => ?_) (fun h3_6 => ?_)
      · skip
        have hlh := lightHs_le h3_6
        have hlh2 := hlh.2
        have hhs : ∀ h ∈ hs, 0 ≤ h.ad.lo := fun h hh => (hhen h hh).2.2.2.1
        have hhh : ∀ h ∈ hs, h.host.length ≤ 1000 ∧ 0 ≤ h.ad.lo := fun h hh => ⟨by have := hlh.1 h hh; omega, hhs h hh⟩
        refine wl_gyes rfl rfl ?_
        refine o_y (y_not rfl) rfl rfl ?_
        refine o_y (y_pick_f rfl rfl) rfl rfl ?_
        refine o_y (y_move rfl) rfl rfl ?_
        refine wl_gyes rfl rfl ?_
        refine o_y (y_move rfl) rfl rfl ?_
        refine wl_gyes rfl rfl ?_
        refine o_y (y_lens Try.underlying25 rfl) rfl rfl ?_
        refine wl_gyes rfl rfl ?_
        refine o_y (y_gtr rfl rfl) rfl rfl ?_
        refine wl_splitp (t := 38) rfl (fun h3_12 => ?_) (fun h3_12 => ?_)
        · skip
          refine o_y (y_pick_f rfl rfl) rfl rfl ?_
          refine wl_nil ?_
          refine e_seq ?_
          refine w_cond_t rfl ?_
          refine w_seq ?_
          refine w_region ?_
          refine o_y (y_assign rfl) rfl rfl ?_
          refine wl_nil ?_
          refine e_seq ?_
          refine w_ret ?_
          refine e_seq_ret ?_
          refine e_ret (ts := [6]) rfl rfl rfl (fun w hw => ?_)
          exact ⟨(), rfl, hw.base, (hw.weak (List.nil_sublist _) (fun s hs => hs)).toNews⟩
        · skip
          refine o_y (y_pick_f rfl rfl) rfl rfl ?_
          refine wl_nil ?_
          refine e_seq ?_
          refine w_cond_f rfl ?_
          refine w_skip ?_
          refine e_seq ?_
          refine w_seq ?_
          refine w_region ?_
          refine o_y (y_loadrs 0 ty_41 rfl rfl rfl rfl) rfl rfl ?_
          refine o_y (y_move rfl) rfl rfl ?_
          refine o_callr1 rfl ent_25 rfl (c_index_NewH v l _ _ Q hs qc hok (by omega) hT (by omega) hhh) (fun w hw => (rd_cons (rd_S 0 rfl hw) (rd_cons (rd_S 1 rfl hw) (rd_cons (rd_S 2 rfl hw) rd_nil)))) (fun ⟨oix, hno, hyes⟩ => ?_)
          refine wl_as (t := 43) (.tuple #[.pointer (ixP oix), .int .i64 (ixE oix)]) rfl (ixV_pe oix) ?_
          refine o_y (y_move rfl) rfl rfl ?_
          refine o_y (y_extract rfl rfl) rfl rfl ?_
          refine o_y (y_extract rfl rfl) rfl rfl ?_
          refine o_y (y_assign rfl) rfl rfl ?_
          refine o_y (y_assign rfl) rfl rfl ?_
          refine wl_nil ?_
          refine e_seq ?_
          refine w_seq ?_
          refine w_seq ?_
          refine w_region ?_
          refine o_y (y_move rfl) rfl rfl ?_
          refine o_y (y_neq rfl rfl) rfl rfl ?_
          refine wl_splitp (t := 47) rfl (fun h6_1 => ?_) (fun h6_1 => ?_)
          · skip
            obtain rfl := ixE_no h6_1
            refine wl_nil ?_
            refine e_seq ?_
            refine w_cond_t rfl ?_
            refine w_seq ?_
            refine w_region ?_
            refine o_y (y_move rfl) rfl rfl ?_
            refine o_y (y_eqp Try.underlying43 rfl rfl) rfl rfl ?_
            refine o_y (y_assign rfl) rfl rfl ?_
            refine wl_nil ?_
            refine e_seq ?_
            refine w_ret ?_
            refine e_seq_ret ?_
            refine e_ret (ts := [6]) rfl rfl rfl (fun w hw => ?_)
            exact ⟨(), rfl, hw.base, (hw.weak (List.nil_sublist _) (fun s hs => hs)).toNews⟩
          · skip
            obtain ⟨ix, rfl⟩ := ixE_yes h6_1
            obtain ⟨hH, hix2⟩ := hyes ix rfl
            have hix := hix2.ix
            refine wl_nil ?_
            refine e_seq ?_
            refine w_cond_f rfl ?_
            refine w_skip ?_
            refine e_seq ?_
            refine w_seq ?_
            refine w_seq ?_
            refine w_region ?_
            refine o_y (y_assign rfl) rfl rfl ?_
            refine wl_nil ?_
            refine e_seq ?_
            refine w_block ?_
            refine w_loop0 (σ := Nat) [6, 9, 10, 11, 12, 13, 14, 15, 16, 17, 18, 50, 51, 52, 53, 54, 55, 56, 57, 58, 59, 60, 61, 62, 63, 64, 65, 66, 67, 68, 69, 70, 71, 72, 73, 74, 75, 76, 77, 78, 79, 80, 81, 82, 83, 84, 85, 86, 87, 88, 89, 90, 91, 92, 93, 94, 95, 96, 97, 98, 99, 100, 101, 102, 103, 104, 105, 106, 107, 108, 109, 110, 111, 112, 113, 114, 115, 116, 117, 118, 119, 120, 121, 122, 123, 124] (fun i => i ≤ l.length) (fun i => l.length - i) (fun i => [(9, .int .i64 i)]) (0) ?_ ⟨rfl, trivial⟩ (fun i hI => ?_)
            · exact Nat.zero_le _
            refine w_seq ?_
            refine w_seq ?_
            refine w_region ?_
            refine o_y (y_move rfl) rfl rfl ?_
            refine o_y (y_field fa_41_1 rfl) rfl rfl ?_
            refine o_y (y_loadr 1 ty_39 rfl rfl rfl) rfl rfl ?_
            refine o_y (y_lenl Try.underlying39 rfl) rfl rfl ?_
            refine o_y (y_lss rfl rfl) rfl rfl ?_
            refine wl_splitp (t := 54) rfl (fun h9_4 => ?_) (fun h9_4 => ?_)
            · skip
              have hi : i < l.length := by omega
              have hfo := map_some le0 (find_own hix hT hi)
              have hYe : ((findI ix.hm (l.getD i le0).e.host).getD le0).e = (l.getD i le0).e := hfo.2
              have hbY := (hok.at hi).eq hYe
              have hA1 := ads_len hix hok ((findI ix.hm (l.getD i le0).e.host).getD le0).e.host
              refine wl_nil ?_
              refine e_seq ?_
              refine w_cond_t rfl ?_
              refine w_skip ?_
              refine e_seq ?_
              refine w_seq ?_
              refine w_block ?_
              refine w_seq ?_
              refine w_region ?_
              refine o_y (y_move rfl) rfl rfl ?_
              refine o_y (y_field fa_41_1 rfl) rfl rfl ?_
              refine o_y (y_loadr 1 ty_39 rfl rfl rfl) rfl rfl ?_
              refine o_y (y_move rfl) rfl rfl ?_
              refine o_y (y_ixm  Try.underlying39 ty_50 rfl rfl (rs_S 0 rfl) rfl (by omega)) rfl rfl ?_
              refine o_y (y_field fa_50_0 rfl) rfl rfl ?_
              refine o_y (y_ldm0 enc_le le0 ty_25 rfl (rs_S 0 rfl) (by omega) rfl rfl) rfl rfl ?_
              refine o_callq rfl ent_32 rfl (c_Find ix _) (fun w hw => (rd_cons (rd_all (rd_L 0 rfl hw) (.head _)) (rd_cons (rd_all (rd_L 0 rfl hw) (.tail _ (.head _))) rd_nil))) ?_
              refine o_y (y_move rfl) rfl rfl ?_
              refine o_y (y_extract rfl rfl) rfl rfl ?_
              refine o_y (y_extract rfl rfl) rfl rfl ?_
              refine wl_as (t := 67) (.bool true) rfl (congrArg Value.bool hfo.1) ?_
              refine o_alloc ty_50 rfl rfl (fun b3 => ?_)
              refine o_store ty_50 rfl rfl rfl .z rfl rfl rfl rfl ?_
              refine o_y (y_assign rfl) rfl rfl ?_
              refine wl_nil ?_
              refine e_seq ?_
              refine w_seq ?_
              refine w_seq ?_
              refine w_draw 12 rfl mixed ?_
              refine a_take (i := 0) rfl wanted_none (y_move rfl) (fun w h => h) (fun w h => h) rfl (pk_seq (pk_seq (pk_blk (pk_seq (pk_loop (pk_blk (pk_seq pk_fn))))))) (by kernel_rfl) rfl ?_
              refine a_take (i := 1) rfl wanted_none (y_not rfl) (fun w h => h) (fun w h => h) rfl (pk_seq (pk_seq (pk_blk (pk_seq (pk_loop (pk_blk (pk_seq pk_fn))))))) (by kernel_rfl) rfl ?_
              refine a_take (i := 2) rfl wanted_none (y_move rfl) (fun w h => h) (fun w h => h) rfl (pk_seq (pk_seq (pk_blk (pk_seq (pk_loop (pk_blk (pk_seq pk_fn))))))) (by kernel_rfl) rfl ?_
              refine a_take (i := 3) rfl (wanted_yes rfl rfl) (y_loadrs 0 ty_50 rfl rfl rfl rfl) (fun w h => h) (fun w h => h) rfl (pk_seq (pk_seq (pk_blk (pk_seq (pk_loop (pk_blk (pk_seq pk_fn))))))) (by kernel_rfl) rfl ?_
              refine a_take (i := 4) rfl (wanted_yes rfl rfl) (y_field fa_41_1 rfl) (fun w h => h) (fun w h => h) rfl (pk_seq (pk_seq (pk_blk (pk_seq (pk_loop (pk_blk (pk_seq pk_fn))))))) (by kernel_rfl) rfl ?_
              refine a_take (i := 5) rfl (wanted_yes rfl rfl) (y_loadr 2 ty_39 rfl rfl rfl) (fun w h => h) (fun w h => h) rfl (pk_seq (pk_seq (pk_blk (pk_seq (pk_loop (pk_blk (pk_seq pk_fn))))))) (by kernel_rfl) rfl ?_
              refine a_take (i := 6) rfl (wanted_yes rfl rfl) (y_move rfl) (fun w h => h) (fun w h => h) rfl (pk_seq (pk_seq (pk_blk (pk_seq (pk_loop (pk_blk (pk_seq pk_fn))))))) (by kernel_rfl) rfl ?_
              refine a_take (i := 7) rfl (wanted_yes rfl rfl) (y_ixm  Try.underlying39 ty_50 rfl rfl (rs_S 0 rfl) rfl (by omega)) (fun w h => h) (fun w h => h) rfl (pk_seq (pk_seq (pk_blk (pk_seq (pk_loop (pk_blk (pk_seq pk_fn))))))) (by kernel_rfl) rfl ?_
              refine a_take (i := 8) rfl (wanted_yes rfl rfl) (y_ldsm0 enc_le le0 ty_50 rfl (rs_S 0 rfl) (by omega) rfl rfl rfl) (fun w h => h) (fun w h => h) rfl (pk_seq (pk_seq (pk_blk (pk_seq (pk_loop (pk_blk (pk_seq pk_fn))))))) (by kernel_rfl) rfl ?_
              refine a_one (i := 9) rfl rfl rfl (tame_call rfl ent_29) (by kernel_rfl) rfl ?_
              refine wl_gyes rfl rfl ?_
              refine o_callq rfl ent_29 rfl (c_ref16_Same ((findI ix.hm (l.getD i le0).e.host).getD le0).e ((findI ix.hm (l.getD i le0).e.host).getD le0).A ((findI ix.hm (l.getD i le0).e.host).getD le0).B ((findI ix.hm (l.getD i le0).e.host).getD le0).c ((findI ix.hm (l.getD i le0).e.host).getD le0).d (l.getD i le0).e (l.getD i le0).A (l.getD i le0).B (l.getD i le0).c (l.getD i le0).d (by have := (hbY).la; omega) (by have := (hbY).lp; omega)) (fun w hw => (rd_cons (rd_all (rd_L 1 rfl hw) (.tail _ (.tail _ (.tail _ (.tail _ (.tail _ (mem_flatR (fi_mem2 hix _) _ (elRA _)))))))) (rd_cons (rd_all (rd_L 1 rfl hw) (.tail _ (.tail _ (.tail _ (.tail _ (.tail _ (mem_flatR (fi_mem2 hix _) _ (elRB _)))))))) (rd_cons (rd_all (rd_S 1 rfl hw) (mem_flatR (mem_getD hi) _ (elRA _))) (rd_cons (rd_all (rd_S 1 rfl hw) (mem_flatR (mem_getD hi) _ (elRB _))) rd_nil))))) ?_
              refine wl_nil ?_
              refine e_one (fun w h => h) ?_
              refine wa_as (t := 77) (.bool true) rfl (congrArg Value.bool (decide_eq_true hYe)) ?_
              refine a_take (i := 10) rfl (wanted_yes rfl rfl) (y_not rfl) (fun w h => h) (fun w h => h) rfl (pk_seq (pk_seq (pk_blk (pk_seq (pk_loop (pk_blk (pk_seq pk_fn))))))) (by kernel_rfl) rfl ?_
              refine a_take (i := 11) rfl wanted_none (y_pick_f rfl rfl) (fun w h => h) (fun w h => h) rfl (pk_seq (pk_seq (pk_blk (pk_seq (pk_loop (pk_blk (pk_seq pk_fn))))))) (by kernel_rfl) rfl ?_
              refine a_done (by kernel_rfl) ?_
              refine e_seq ?_
              refine w_cond_f rfl ?_
              refine w_skip ?_
              refine e_seq ?_
              refine w_seq ?_
              refine w_region ?_
              refine o_y (y_move rfl) rfl rfl ?_
              refine o_y (y_loadrs 0 ty_50 rfl rfl rfl rfl) rfl rfl ?_
              refine o_callr1 rfl ent_33 rfl (c_Addrs ix l hs ((findI ix.hm (l.getD i le0).e.host).getD le0) hix2 hok hhs) (fun w hw => (rd_cons (rd_all (rd_L 1 rfl hw) (.head _)) (rd_cons (rd_all (rd_L 1 rfl hw) (.tail _ (.head _))) (rd_cons (rd_all (rd_L 1 rfl hw) (.tail _ (.tail _ (.head _)))) (rd_cons (rd_all (rd_L 1 rfl hw) (.tail _ (.tail _ (.tail _ (.head _))))) (rd_cons (rd_sub (rd_L 1 rfl hw) (fun c hc => .tail _ (.tail _ (.tail _ (.tail _ (.tail _ hc)))))) rd_nil)))))) (fun ⟨A3, c3⟩ => ?_)
              refine o_y (y_assign rfl) rfl rfl ?_
              refine wl_nil ?_
              refine e_seq ?_
              refine w_seq ?_
              refine w_region ?_
              refine o_y (y_assign rfl) rfl rfl ?_
              refine wl_nil ?_
              refine e_seq ?_
              refine w_block ?_
              refine w_loop0 (σ := Nat) [6, 13, 14, 15, 16, 17, 18, 83, 84, 85, 86, 87, 88, 89, 90, 91, 92, 93, 94, 95, 96, 97, 98, 99, 100, 101, 102, 103, 104, 105, 106, 107, 108, 109, 110, 111, 112, 113, 114, 115, 116, 117, 118, 119, 120, 121, 122, 123, 124] (fun k => k ≤ (adsI ix ((findI ix.hm (l.getD i le0).e.host).getD le0).e.host).length) (fun k => (adsI ix ((findI ix.hm (l.getD i le0).e.host).getD le0).e.host).length - k) (fun k => [(13, .int .i64 k)]) (0) ?_ ⟨rfl, trivial⟩ (fun k hI => ?_)
              · exact Nat.zero_le _
              refine w_seq ?_
              refine w_seq ?_
              refine w_region ?_
              refine o_y (y_move rfl) rfl rfl ?_
              refine o_y (y_move rfl) rfl rfl ?_
              refine o_y (y_lenl Try.underlying46 rfl) rfl rfl ?_
              refine o_y (y_lss rfl rfl) rfl rfl ?_
              refine wl_splitp (t := 86) rfl (fun h16_3 => ?_) (fun h16_3 => ?_)
              · skip
                have hk : k < (adsI ix ((findI ix.hm (l.getD i le0).e.host).getD le0).e.host).length := by omega
                obtain ⟨z, hz, hzm⟩ := of_ads hix2 hT hH (mem_getD (d := ad0) hk)
                have hA2 := ads_len hix hok ((lkp ix.am ((adsI ix ((findI ix.hm (l.getD i le0).e.host).getD le0).e.host).getD k ad0)).getD le0).e.host
                refine wl_nil ?_
                refine e_seq ?_
                refine w_cond_t rfl ?_
                refine w_skip ?_
                refine e_seq ?_
                refine w_seq ?_
                refine w_block ?_
                refine w_seq ?_
                refine w_region ?_
                refine o_y (y_move rfl) rfl rfl ?_
                refine o_y (y_move rfl) rfl rfl ?_
                refine o_y (y_move rfl) rfl rfl ?_
                refine o_y (y_ixm  Try.underlying46 ty_66 rfl rfl (rs_L 0 rfl) rfl (by omega)) rfl rfl ?_
                refine o_y (y_ldsm0 enc_ad ad0 ty_66 rfl (rs_L 0 rfl) (by omega) rfl rfl rfl) rfl rfl ?_
                refine o_callq rfl ent_34 rfl (c_Of ix _) (fun w hw => (rd_cons (rd_all (rd_L 2 rfl hw) (.head _)) (rd_cons (rd_all (rd_L 2 rfl hw) (.tail _ (.tail _ (.tail _ (.head _))))) rd_nil))) ?_
                refine o_y (y_move rfl) rfl rfl ?_
                refine o_y (y_extract rfl rfl) rfl rfl ?_
                refine o_y (y_extract rfl rfl) rfl rfl ?_
                refine wl_as (t := 97) (.bool true) rfl (congrArg Value.bool (by rw [hz]; rfl)) ?_
                refine o_alloc ty_50 rfl rfl (fun b5 => ?_)
                refine o_store ty_50 rfl rfl rfl .z rfl rfl rfl rfl ?_
                refine o_y (y_assign rfl) rfl rfl ?_
                refine wl_nil ?_
                refine e_seq ?_
                refine w_seq ?_
                refine w_region ?_
                refine o_y (y_move rfl) rfl rfl ?_
                refine o_y (y_loadrs 0 ty_50 rfl rfl rfl rfl) rfl rfl ?_
                refine o_callr1 rfl ent_33 rfl (c_Addrs ix l hs ((lkp ix.am ((adsI ix ((findI ix.hm (l.getD i le0).e.host).getD le0).e.host).getD k ad0)).getD le0) hix2 hok hhs) (fun w hw => (rd_cons (rd_all (rd_L 3 rfl hw) (.head _)) (rd_cons (rd_all (rd_L 3 rfl hw) (.tail _ (.head _))) (rd_cons (rd_all (rd_L 3 rfl hw) (.tail _ (.tail _ (.head _)))) (rd_cons (rd_all (rd_L 3 rfl hw) (.tail _ (.tail _ (.tail _ (.head _))))) (rd_cons (rd_sub (rd_L 3 rfl hw) (fun c hc => .tail _ (.tail _ (.tail _ (.tail _ (.tail _ hc)))))) rd_nil)))))) (fun ⟨A5, c5⟩ => ?_)
                refine o_y (y_assign rfl) rfl rfl ?_
                refine wl_nil ?_
                refine e_seq ?_
                refine w_seq ?_
                refine w_region ?_
                refine o_y (y_assign rfl) rfl rfl ?_
                refine wl_nil ?_
                refine e_seq ?_
                refine w_seq ?_
                refine w_seq ?_
                refine w_region ?_
                refine o_y (y_assign rfl) rfl rfl ?_
                refine wl_nil ?_
                refine e_seq ?_
                refine w_block ?_
                refine w_loop0 (σ := Nat × Bool) [17, 18, 101, 102, 103, 104, 105, 106, 107, 108, 109, 110, 111, 112, 113, 114, 115, 116, 117, 118] (fun q => q.1 ≤ (adsI ix ((lkp ix.am ((adsI ix ((findI ix.hm (l.getD i le0).e.host).getD le0).e.host).getD k ad0)).getD le0).e.host).length ∧ q.2 = decide (((adsI ix ((findI ix.hm (l.getD i le0).e.host).getD le0).e.host).getD k ad0) ∈ (adsI ix ((lkp ix.am ((adsI ix ((findI ix.hm (l.getD i le0).e.host).getD le0).e.host).getD k ad0)).getD le0).e.host).take q.1)) (fun q => (adsI ix ((lkp ix.am ((adsI ix ((findI ix.hm (l.getD i le0).e.host).getD le0).e.host).getD k ad0)).getD le0).e.host).length - q.1) (fun q => [(18, .int .i64 q.1), (17, .bool q.2)]) ((0, false)) ?_ ⟨rfl, rfl, trivial⟩ (fun q hI => ?_)
                · exact ⟨Nat.zero_le _, (decide_eq_false (by simp)).symm⟩
                obtain ⟨j, b⟩ := q
                dsimp only at hI ⊢
                refine w_seq ?_
                refine w_seq ?_
                refine w_region ?_
                refine o_y (y_move rfl) rfl rfl ?_
                refine o_y (y_move rfl) rfl rfl ?_
                refine o_y (y_lenl Try.underlying46 rfl) rfl rfl ?_
                refine o_y (y_lss rfl rfl) rfl rfl ?_
                refine wl_splitp (t := 104) rfl (fun h22_3 => ?_) (fun h22_3 => ?_)
                · skip
                  have hj : j < (adsI ix ((lkp ix.am ((adsI ix ((findI ix.hm (l.getD i le0).e.host).getD le0).e.host).getD k ad0)).getD le0).e.host).length := by omega
                  refine wl_nil ?_
                  refine e_seq ?_
                  refine w_cond_t rfl ?_
                  refine w_skip ?_
                  refine e_seq ?_
                  refine w_seq ?_
                  refine w_block ?_
                  refine w_draw 13 rfl mixed ?_
                  refine a_take (i := 0) rfl wanted_none (y_move rfl) (fun w h => h) (fun w h => h) rfl (pk_blk (pk_seq (pk_loop (pk_blk (pk_seq (pk_blk (pk_seq (pk_loop (pk_blk (pk_blk (pk_seq (pk_loop (pk_blk (pk_seq pk_fn)))))))))))))) (by kernel_rfl) rfl ?_
                  refine wa_splitb (t := 107) rfl (fun h24_0 => ?_) (fun h24_0 => ?_)
                  · skip
                    refine a_take (i := 1) rfl wanted_none (y_move rfl) (fun w h => h) (fun w h => h) rfl (pk_blk (pk_seq (pk_loop (pk_blk (pk_seq (pk_blk (pk_seq (pk_loop (pk_blk (pk_blk (pk_seq (pk_loop (pk_blk (pk_seq pk_fn)))))))))))))) (by kernel_rfl) rfl ?_
                    refine a_skip (i := 2) rfl (wanted_no rfl rfl rfl) (fun w h => h) rfl (pk_blk (pk_seq (pk_loop (pk_blk (pk_seq (pk_blk (pk_seq (pk_loop (pk_blk (pk_blk (pk_seq (pk_loop (pk_blk (pk_seq pk_fn)))))))))))))) (by kernel_rfl) rfl ?_
                    refine a_skip (i := 3) rfl (wanted_no rfl rfl rfl) (fun w h => h) rfl (pk_blk (pk_seq (pk_loop (pk_blk (pk_seq (pk_blk (pk_seq (pk_loop (pk_blk (pk_blk (pk_seq (pk_loop (pk_blk (pk_seq pk_fn)))))))))))))) (by kernel_rfl) rfl ?_
                    refine a_skip (i := 4) rfl (wanted_no rfl rfl rfl) (fun w h => h) rfl (pk_blk (pk_seq (pk_loop (pk_blk (pk_seq (pk_blk (pk_seq (pk_loop (pk_blk (pk_blk (pk_seq (pk_loop (pk_blk (pk_seq pk_fn)))))))))))))) (by kernel_rfl) rfl ?_
                    refine a_skip (i := 5) rfl (wanted_no rfl rfl rfl) (fun w h => h) rfl (pk_blk (pk_seq (pk_loop (pk_blk (pk_seq (pk_blk (pk_seq (pk_loop (pk_blk (pk_blk (pk_seq (pk_loop (pk_blk (pk_seq pk_fn)))))))))))))) (by kernel_rfl) rfl ?_
                    refine a_skip (i := 6) rfl (wanted_no rfl rfl rfl) (fun w h => h) rfl (pk_blk (pk_seq (pk_loop (pk_blk (pk_seq (pk_blk (pk_seq (pk_loop (pk_blk (pk_blk (pk_seq (pk_loop (pk_blk (pk_seq pk_fn)))))))))))))) (by kernel_rfl) rfl ?_
                    refine a_skip (i := 7) rfl (wanted_no rfl rfl rfl) (fun w h => h) rfl (pk_blk (pk_seq (pk_loop (pk_blk (pk_seq (pk_blk (pk_seq (pk_loop (pk_blk (pk_blk (pk_seq (pk_loop (pk_blk (pk_seq pk_fn)))))))))))))) (by kernel_rfl) rfl ?_
                    refine a_skip (i := 8) rfl (wanted_no rfl rfl rfl) (fun w h => h) rfl (pk_blk (pk_seq (pk_loop (pk_blk (pk_seq (pk_blk (pk_seq (pk_loop (pk_blk (pk_blk (pk_seq (pk_loop (pk_blk (pk_seq pk_fn)))))))))))))) (by kernel_rfl) rfl ?_
                    refine a_skip (i := 9) rfl (wanted_no rfl rfl rfl) (fun w h => h) rfl (pk_blk (pk_seq (pk_loop (pk_blk (pk_seq (pk_blk (pk_seq (pk_loop (pk_blk (pk_blk (pk_seq (pk_loop (pk_blk (pk_seq pk_fn)))))))))))))) (by kernel_rfl) rfl ?_
                    refine a_skip (i := 10) rfl (wanted_no rfl rfl rfl) (fun w h => h) rfl (pk_blk (pk_seq (pk_loop (pk_blk (pk_seq (pk_blk (pk_seq (pk_loop (pk_blk (pk_blk (pk_seq (pk_loop (pk_blk (pk_seq pk_fn)))))))))))))) (by kernel_rfl) rfl ?_
                    refine a_take (i := 11) rfl wanted_none (y_pick_t rfl rfl) (fun w h => h) (fun w h => h) rfl (pk_blk (pk_seq (pk_loop (pk_blk (pk_seq (pk_blk (pk_seq (pk_loop (pk_blk (pk_blk (pk_seq (pk_loop (pk_blk (pk_seq pk_fn)))))))))))))) (by kernel_rfl) rfl ?_
                    refine a_take (i := 12) rfl wanted_none (y_assign rfl) (fun w h => h) (fun w h => h) rfl (pk_blk (pk_seq (pk_loop (pk_blk (pk_seq (pk_blk (pk_seq (pk_loop (pk_blk (pk_blk (pk_seq (pk_loop (pk_blk (pk_seq pk_fn)))))))))))))) (by kernel_rfl) rfl ?_
                    refine a_done (by kernel_rfl) ?_
                    refine e_blk ?_
                    refine e_seq ?_
                    refine w_region ?_
                    refine o_y (y_move rfl) rfl rfl ?_
                    refine o_y (y_addi rfl rfl (by omega) (by omega)) rfl rfl ?_
                    refine o_y (y_assign rfl) rfl rfl ?_
                    refine wl_nil ?_
                    refine e_back ((j + 1, true)) ?_ ?_ ⟨rfl, rfl, trivial⟩ (by repeat (first | exact trivial | refine ⟨rfl, ?_⟩)) (fun w h => h)
                    · exact ⟨by show j + 1 ≤ _; omega, by show _ = decide (_ ∈ List.take (j + 1) _); rw [← has_step hj hI.2, h24_0]; rfl⟩
                    · show (adsI ix ((lkp ix.am ((adsI ix ((findI ix.hm (l.getD i le0).e.host).getD le0).e.host).getD k ad0)).getD le0).e.host).length - (j + 1) < (adsI ix ((lkp ix.am ((adsI ix ((findI ix.hm (l.getD i le0).e.host).getD le0).e.host).getD k ad0)).getD le0).e.host).length - j
                      omega
                  · skip
                    refine a_take (i := 1) rfl wanted_none (y_move rfl) (fun w h => h) (fun w h => h) rfl (pk_blk (pk_seq (pk_loop (pk_blk (pk_seq (pk_blk (pk_seq (pk_loop (pk_blk (pk_blk (pk_seq (pk_loop (pk_blk (pk_seq pk_fn)))))))))))))) (by kernel_rfl) rfl ?_
                    refine a_take (i := 2) rfl (wanted_yes rfl rfl) (y_move rfl) (fun w h => h) (fun w h => h) rfl (pk_blk (pk_seq (pk_loop (pk_blk (pk_seq (pk_blk (pk_seq (pk_loop (pk_blk (pk_blk (pk_seq (pk_loop (pk_blk (pk_seq pk_fn)))))))))))))) (by kernel_rfl) rfl ?_
                    refine a_take (i := 3) rfl (wanted_yes rfl rfl) (y_move rfl) (fun w h => h) (fun w h => h) rfl (pk_blk (pk_seq (pk_loop (pk_blk (pk_seq (pk_blk (pk_seq (pk_loop (pk_blk (pk_blk (pk_seq (pk_loop (pk_blk (pk_seq pk_fn)))))))))))))) (by kernel_rfl) rfl ?_
                    refine a_take (i := 4) rfl (wanted_yes rfl rfl) (y_ixm  Try.underlying46 ty_66 rfl rfl (rs_L 0 rfl) rfl (by omega)) (fun w h => h) (fun w h => h) rfl (pk_blk (pk_seq (pk_loop (pk_blk (pk_seq (pk_blk (pk_seq (pk_loop (pk_blk (pk_blk (pk_seq (pk_loop (pk_blk (pk_seq pk_fn)))))))))))))) (by kernel_rfl) rfl ?_
                    refine a_take (i := 5) rfl (wanted_yes rfl rfl) (y_ldsm0 enc_ad ad0 ty_66 rfl (rs_L 0 rfl) (by omega) rfl rfl rfl) (fun w h => h) (fun w h => h) rfl (pk_blk (pk_seq (pk_loop (pk_blk (pk_seq (pk_blk (pk_seq (pk_loop (pk_blk (pk_blk (pk_seq (pk_loop (pk_blk (pk_seq pk_fn)))))))))))))) (by kernel_rfl) rfl ?_
                    refine a_take (i := 6) rfl (wanted_yes rfl rfl) (y_move rfl) (fun w h => h) (fun w h => h) rfl (pk_blk (pk_seq (pk_loop (pk_blk (pk_seq (pk_blk (pk_seq (pk_loop (pk_blk (pk_blk (pk_seq (pk_loop (pk_blk (pk_seq pk_fn)))))))))))))) (by kernel_rfl) rfl ?_
                    refine a_take (i := 7) rfl (wanted_yes rfl rfl) (y_move rfl) (fun w h => h) (fun w h => h) rfl (pk_blk (pk_seq (pk_loop (pk_blk (pk_seq (pk_blk (pk_seq (pk_loop (pk_blk (pk_blk (pk_seq (pk_loop (pk_blk (pk_seq pk_fn)))))))))))))) (by kernel_rfl) rfl ?_
                    refine a_take (i := 8) rfl (wanted_yes rfl rfl) (y_ixm  Try.underlying46 ty_66 rfl rfl (rs_L 2 rfl) rfl (by omega)) (fun w h => h) (fun w h => h) rfl (pk_blk (pk_seq (pk_loop (pk_blk (pk_seq (pk_blk (pk_seq (pk_loop (pk_blk (pk_blk (pk_seq (pk_loop (pk_blk (pk_seq pk_fn)))))))))))))) (by kernel_rfl) rfl ?_
                    refine a_take (i := 9) rfl (wanted_yes rfl rfl) (y_ldsm0 enc_ad ad0 ty_66 rfl (rs_L 2 rfl) (by omega) rfl rfl rfl) (fun w h => h) (fun w h => h) rfl (pk_blk (pk_seq (pk_loop (pk_blk (pk_seq (pk_blk (pk_seq (pk_loop (pk_blk (pk_blk (pk_seq (pk_loop (pk_blk (pk_seq pk_fn)))))))))))))) (by kernel_rfl) rfl ?_
                    refine a_take (i := 10) rfl (wanted_yes rfl rfl) (y_eqst (by kernel_rfl) rfl rfl (eqd_ad _ _) rfl) (fun w h => h) (fun w h => h) rfl (pk_blk (pk_seq (pk_loop (pk_blk (pk_seq (pk_blk (pk_seq (pk_loop (pk_blk (pk_blk (pk_seq (pk_loop (pk_blk (pk_seq pk_fn)))))))))))))) (by kernel_rfl) rfl ?_
                    refine a_take (i := 11) rfl wanted_none (y_pick_f rfl rfl) (fun w h => h) (fun w h => h) rfl (pk_blk (pk_seq (pk_loop (pk_blk (pk_seq (pk_blk (pk_seq (pk_loop (pk_blk (pk_blk (pk_seq (pk_loop (pk_blk (pk_seq pk_fn)))))))))))))) (by kernel_rfl) rfl ?_
                    refine a_take (i := 12) rfl wanted_none (y_assign rfl) (fun w h => h) (fun w h => h) rfl (pk_blk (pk_seq (pk_loop (pk_blk (pk_seq (pk_blk (pk_seq (pk_loop (pk_blk (pk_blk (pk_seq (pk_loop (pk_blk (pk_seq pk_fn)))))))))))))) (by kernel_rfl) rfl ?_
                    refine a_done (by kernel_rfl) ?_
                    refine e_blk ?_
                    refine e_seq ?_
                    refine w_region ?_
                    refine o_y (y_move rfl) rfl rfl ?_
                    refine o_y (y_addi rfl rfl (by omega) (by omega)) rfl rfl ?_
                    refine o_y (y_assign rfl) rfl rfl ?_
                    refine wl_nil ?_
                    refine e_back ((j + 1, decide ((adsI ix ((lkp ix.am ((adsI ix ((findI ix.hm (l.getD i le0).e.host).getD le0).e.host).getD k ad0)).getD le0).e.host).getD j ad0 = ((adsI ix ((findI ix.hm (l.getD i le0).e.host).getD le0).e.host).getD k ad0)))) ?_ ?_ ⟨rfl, rfl, trivial⟩ (by repeat (first | exact trivial | refine ⟨rfl, ?_⟩)) (fun w h => h)
                    · exact ⟨by show j + 1 ≤ _; omega, by show _ = decide (_ ∈ List.take (j + 1) _); rw [← has_step hj hI.2, h24_0]; rfl⟩
                    · show (adsI ix ((lkp ix.am ((adsI ix ((findI ix.hm (l.getD i le0).e.host).getD le0).e.host).getD k ad0)).getD le0).e.host).length - (j + 1) < (adsI ix ((lkp ix.am ((adsI ix ((findI ix.hm (l.getD i le0).e.host).getD le0).e.host).getD k ad0)).getD le0).e.host).length - j
                      omega
                · skip
                  refine wl_nil ?_
                  refine e_seq ?_
                  refine w_cond_f rfl ?_
                  refine w_exit ?_
                  refine e_seq_exit ?_
                  refine e_loop_exit ?_
                  refine e_blk_hit ?_
                  refine e_seq ?_
                  refine w_seq ?_
                  have hb1 : b = true := by
                    rw [hI.2, show j = (adsI ix ((lkp ix.am ((adsI ix ((findI ix.hm (l.getD i le0).e.host).getD le0).e.host).getD k ad0)).getD le0).e.host).length by omega, List.take_length]
                    exact decide_eq_true (by rw [hz]; exact hzm)
                  refine w_region ?_
                  refine o_y (y_move rfl) rfl rfl ?_
                  refine o_y (y_not rfl) rfl rfl ?_
                  refine o_y (y_move rfl) rfl rfl ?_
                  refine wl_gyes rfl rfl ?_
                  refine o_y (y_move rfl) rfl rfl ?_
                  refine wl_as (t := 122) (.bool true) rfl (congrArg Value.bool hb1) ?_
                  refine wl_gyes rfl rfl ?_
                  refine o_y (y_not rfl) rfl rfl ?_
                  refine o_y (y_pick_f rfl rfl) rfl rfl ?_
                  refine wl_nil ?_
                  refine e_seq ?_
                  refine w_cond_f rfl ?_
                  refine w_skip ?_
                  refine e_blk ?_
                  refine e_seq ?_
                  refine w_region ?_
                  refine o_y (y_move rfl) rfl rfl ?_
                  refine o_y (y_addi rfl rfl (by omega) (by omega)) rfl rfl ?_
                  refine o_y (y_assign rfl) rfl rfl ?_
                  refine wl_nil ?_
                  refine e_back (k + 1) ?_ ?_ ⟨rfl, trivial⟩ (by repeat (first | exact trivial | refine ⟨rfl, ?_⟩)) (fun w h => h.weak (.cons _ (.cons _ (List.Sublist.refl _))) (fun s hs => hs))
                  · omega
                  · omega
              · skip
                refine wl_nil ?_
                refine e_seq ?_
                refine w_cond_f rfl ?_
                refine w_exit ?_
                refine e_seq_exit ?_
                refine e_loop_exit ?_
                refine e_blk_hit ?_
                refine e_blk ?_
                refine e_seq ?_
                refine w_region ?_
                refine o_y (y_move rfl) rfl rfl ?_
                refine o_y (y_addi rfl rfl (by omega) (by omega)) rfl rfl ?_
                refine o_y (y_assign rfl) rfl rfl ?_
                refine wl_nil ?_
                refine e_back (i + 1) ?_ ?_ ⟨rfl, trivial⟩ (by repeat (first | exact trivial | refine ⟨rfl, ?_⟩)) (fun w h => h.weak (.cons _ (.cons _ (List.Sublist.refl _))) (fun s hs => hs))
                · omega
                · omega
            · skip
              refine wl_nil ?_
              refine e_seq ?_
              refine w_cond_f rfl ?_
              refine w_exit ?_
              refine e_seq_exit ?_
              refine e_loop_exit ?_
              refine e_blk_hit ?_
              refine e_seq ?_
              refine w_seq ?_
              refine w_region ?_
              refine o_y (y_move rfl) rfl rfl ?_
              refine o_y (y_move rfl) rfl rfl ?_
              refine o_callq rfl ent_32 rfl (c_Find ix _) (fun w hw => (rd_cons (rd_all (rd_L 0 rfl hw) (.head _)) (rd_cons (rd_all (rd_L 0 rfl hw) (.tail _ (.head _))) rd_nil))) ?_
              refine o_y (y_move rfl) rfl rfl ?_
              refine o_y (y_extract rfl rfl) rfl rfl ?_
              refine o_y (y_extract rfl rfl) rfl rfl ?_
              refine o_alloc ty_50 rfl rfl (fun b7 => ?_)
              refine o_store ty_50 rfl rfl rfl .z rfl rfl rfl rfl ?_
              refine o_y (y_assign rfl) rfl rfl ?_
              refine wl_nil ?_
              refine e_seq ?_
              refine w_seq ?_
              refine w_region ?_
              refine o_y (y_assign rfl) rfl rfl ?_
              refine wl_nil ?_
              refine e_seq ?_
              refine w_seq ?_
              refine w_seq ?_
              refine w_region ?_
              refine o_y (y_assign rfl) rfl rfl ?_
              refine wl_nil ?_
              refine e_seq ?_
              refine w_block ?_
              refine w_loop0 (σ := Nat × Nat) [6, 21, 22, 23, 131, 132, 133, 134, 135, 136, 137, 138, 139, 140, 141, 142, 143, 144, 145, 146, 147, 148, 149, 150, 151, 152, 153, 154, 155, 156, 157, 158, 159, 160, 161, 162, 163, 164] (fun q => q.1 ≤ l.length ∧ LongOk l n q.1 q.2) (fun q => l.length - q.1) (fun q => [(22, .int .i64 q.1), (21, .int .i64 q.2)]) ((0, 0)) ?_ ⟨rfl, rfl, trivial⟩ (fun q hI => ?_)
              · exact ⟨Nat.zero_le _, long_zero l n⟩
              obtain ⟨i2, long⟩ := q
              dsimp only at hI ⊢
              refine w_seq ?_
              refine w_seq ?_
              refine w_region ?_
              refine o_y (y_move rfl) rfl rfl ?_
              refine o_y (y_field fa_41_1 rfl) rfl rfl ?_
              refine o_y (y_loadr 2 ty_39 rfl rfl rfl) rfl rfl ?_
              refine o_y (y_lenl Try.underlying39 rfl) rfl rfl ?_
              refine o_y (y_lss rfl rfl) rfl rfl ?_
              refine wl_splitp (t := 135) rfl (fun h30_4 => ?_) (fun h30_4 => ?_)
              · skip
                have hi2 : i2 < l.length := by omega
                have hb9 := hok.at hi2
                have hh9 := hb9.h
                have hll2 := (labsN_le (l.getD i2 le0).e.host (by omega)).1
                refine wl_nil ?_
                refine e_seq ?_
                refine w_cond_t rfl ?_
                refine w_skip ?_
                refine e_seq ?_
                refine w_seq ?_
                refine w_block ?_
                refine w_seq ?_
                refine w_region ?_
                refine o_y (y_field fa_41_1 rfl) rfl rfl ?_
                refine o_y (y_loadr 2 ty_39 rfl rfl rfl) rfl rfl ?_
                refine o_y (y_move rfl) rfl rfl ?_
                refine o_y (y_ixm  Try.underlying39 ty_50 rfl rfl (rs_S 0 rfl) rfl (by omega)) rfl rfl ?_
                refine o_y (y_field fa_50_0 rfl) rfl rfl ?_
                refine o_y (y_ldm0 enc_le le0 ty_25 rfl (rs_S 0 rfl) (by omega) rfl rfl) rfl rfl ?_
                refine o_y (y_assign rfl) rfl rfl ?_
                refine wl_nil ?_
                refine e_seq ?_
                refine w_seq ?_
                refine w_seq ?_
                refine w_region ?_
                refine o_y (y_move rfl) rfl rfl ?_
                refine o_y (y_move rfl) rfl rfl ?_
                refine o_callp rfl ent_20 (c_ref02_Same _ _ (by omega) (by omega)) rfl ?_
                refine wl_splitb (t := 146) rfl (fun h33_2 => ?_) (fun h33_2 => ?_)
                · skip
                  have hfs := map_some le0 (find_same hix hT hi2 h33_2)
                  have hbN := (hok.at hi2).eq hfs.2
                  refine wl_nil ?_
                  refine e_seq ?_
                  refine w_cond_t rfl ?_
                  refine w_seq ?_
                  refine w_draw 11 rfl mixed ?_
                  refine a_take (i := 0) rfl wanted_none (y_move rfl) (fun w h => h) (fun w h => h) rfl (pk_seq (pk_seq (pk_blk (pk_seq (pk_loop (pk_blk (pk_seq pk_fn))))))) (by kernel_rfl) rfl ?_
                  refine wa_as (t := 147) (.bool true) rfl (congrArg Value.bool hfs.1) ?_
                  refine a_take (i := 1) rfl wanted_none (y_move rfl) (fun w h => h) (fun w h => h) rfl (pk_seq (pk_seq (pk_blk (pk_seq (pk_loop (pk_blk (pk_seq pk_fn))))))) (by kernel_rfl) rfl ?_
                  refine a_take (i := 2) rfl (wanted_yes rfl rfl) (y_loadrs 0 ty_50 rfl rfl rfl rfl) (fun w h => h) (fun w h => h) rfl (pk_seq (pk_seq (pk_blk (pk_seq (pk_loop (pk_blk (pk_seq pk_fn))))))) (by kernel_rfl) rfl ?_
                  refine a_take (i := 3) rfl (wanted_yes rfl rfl) (y_field fa_41_1 rfl) (fun w h => h) (fun w h => h) rfl (pk_seq (pk_seq (pk_blk (pk_seq (pk_loop (pk_blk (pk_seq pk_fn))))))) (by kernel_rfl) rfl ?_
                  refine a_take (i := 4) rfl (wanted_yes rfl rfl) (y_loadr 2 ty_39 rfl rfl rfl) (fun w h => h) (fun w h => h) rfl (pk_seq (pk_seq (pk_blk (pk_seq (pk_loop (pk_blk (pk_seq pk_fn))))))) (by kernel_rfl) rfl ?_
                  refine a_take (i := 5) rfl (wanted_yes rfl rfl) (y_move rfl) (fun w h => h) (fun w h => h) rfl (pk_seq (pk_seq (pk_blk (pk_seq (pk_loop (pk_blk (pk_seq pk_fn))))))) (by kernel_rfl) rfl ?_
                  refine a_take (i := 6) rfl (wanted_yes rfl rfl) (y_ixm  Try.underlying39 ty_50 rfl rfl (rs_S 0 rfl) rfl (by omega)) (fun w h => h) (fun w h => h) rfl (pk_seq (pk_seq (pk_blk (pk_seq (pk_loop (pk_blk (pk_seq pk_fn))))))) (by kernel_rfl) rfl ?_
                  refine a_take (i := 7) rfl (wanted_yes rfl rfl) (y_ldsm0 enc_le le0 ty_50 rfl (rs_S 0 rfl) (by omega) rfl rfl rfl) (fun w h => h) (fun w h => h) rfl (pk_seq (pk_seq (pk_blk (pk_seq (pk_loop (pk_blk (pk_seq pk_fn))))))) (by kernel_rfl) rfl ?_
                  refine a_one (i := 8) rfl rfl rfl (tame_call rfl ent_29) (by kernel_rfl) rfl ?_
                  refine wl_gyes rfl rfl ?_
                  refine o_callq rfl ent_29 rfl (c_ref16_Same ((findI ix.hm n).getD le0).e ((findI ix.hm n).getD le0).A ((findI ix.hm n).getD le0).B ((findI ix.hm n).getD le0).c ((findI ix.hm n).getD le0).d (l.getD i2 le0).e (l.getD i2 le0).A (l.getD i2 le0).B (l.getD i2 le0).c (l.getD i2 le0).d (by have := (hbN).la; omega) (by have := (hbN).lp; omega)) (fun w hw => (rd_cons (rd_all (rd_L 1 rfl hw) (.tail _ (.tail _ (.tail _ (.tail _ (.tail _ (mem_flatR (fi_mem2 hix _) _ (elRA _)))))))) (rd_cons (rd_all (rd_L 1 rfl hw) (.tail _ (.tail _ (.tail _ (.tail _ (.tail _ (mem_flatR (fi_mem2 hix _) _ (elRB _)))))))) (rd_cons (rd_all (rd_S 1 rfl hw) (mem_flatR (mem_getD hi2) _ (elRA _))) (rd_cons (rd_all (rd_S 1 rfl hw) (mem_flatR (mem_getD hi2) _ (elRB _))) rd_nil))))) ?_
                  refine wl_nil ?_
                  refine e_one (fun w h => h) ?_
                  refine wa_as (t := 155) (.bool true) rfl (congrArg Value.bool (decide_eq_true hfs.2)) ?_
                  refine a_take (i := 9) rfl wanted_none (y_pick_t rfl rfl) (fun w h => h) (fun w h => h) rfl (pk_seq (pk_seq (pk_blk (pk_seq (pk_loop (pk_blk (pk_seq pk_fn))))))) (by kernel_rfl) rfl ?_
                  refine a_take (i := 10) rfl wanted_none (y_assign rfl) (fun w h => h) (fun w h => h) rfl (pk_seq (pk_seq (pk_blk (pk_seq (pk_loop (pk_blk (pk_seq pk_fn))))))) (by kernel_rfl) rfl ?_
                  refine a_done (by kernel_rfl) ?_
                  refine e_seq ?_
                  refine w_ret ?_
                  refine e_seq_ret ?_
                  refine e_blk_ret ?_
                  refine e_seq_ret ?_
                  refine e_loop_ret ?_
                  refine e_blk_ret ?_
                  refine e_seq_ret ?_
                  refine e_ret (ts := [6]) rfl rfl rfl (fun w hw => ?_)
                  exact ⟨(), rfl, hw.base, (hw.weak (List.nil_sublist _) (fun s hs => hs)).toNews⟩
                · skip
                  refine wl_nil ?_
                  refine e_seq ?_
                  refine w_cond_f rfl ?_
                  refine w_skip ?_
                  refine e_seq ?_
                  refine w_seq ?_
                  refine w_region ?_
                  refine o_y (y_move rfl) rfl rfl ?_
                  refine o_y (y_move rfl) rfl rfl ?_
                  refine o_callp rfl ent_35 (p_ref02_Matches _ _ (by omega) (by omega)) rfl ?_
                  refine wl_splitb (t := 159) rfl (fun h35_2 => ?_) (fun h35_2 => ?_)
                  · skip
                    refine wl_nil ?_
                    refine e_seq ?_
                    refine w_cond_t rfl ?_
                    refine w_region ?_
                    refine o_y (y_move rfl) rfl rfl ?_
                    refine o_y (y_move rfl) rfl rfl ?_
                    refine o_callr1 rfl ent_21 rfl (c_ref02_Labels _) (fun w hw => rd_nil) (fun ⟨A7, c7⟩ => ?_)
                    refine o_y (y_lenl Try.underlying36 rfl) rfl rfl ?_
                    refine o_y (y_max rfl rfl) rfl rfl ?_
                    refine wl_as (t := 164) (.int .i64 ((max long (labsN (l.getD i2 le0).e.host).length : Nat) : Int)) rfl (by congr 1; split <;> omega) ?_
                    refine o_y (y_assign rfl) rfl rfl ?_
                    refine wl_nil ?_
                    refine e_blk ?_
                    refine e_seq ?_
                    refine w_region ?_
                    refine o_y (y_move rfl) rfl rfl ?_
                    refine o_y (y_addi rfl rfl (by omega) (by omega)) rfl rfl ?_
                    refine o_y (y_assign rfl) rfl rfl ?_
                    refine wl_nil ?_
                    refine e_back ((i2 + 1, max long (labsN (hst l i2)).length)) ?_ ?_ ⟨rfl, rfl, trivial⟩ (by repeat (first | exact trivial | refine ⟨rfl, ?_⟩)) (fun w h => h.weak (.cons _ (List.Sublist.refl _)) (fun s hs => hs))
                    · exact ⟨by show i2 + 1 ≤ _; omega, long_yes hI.2 h33_2 h35_2⟩
                    · show l.length - (i2 + 1) < l.length - i2
                      omega
                  · skip
                    refine wl_nil ?_
                    refine e_seq ?_
                    refine w_cond_f rfl ?_
                    refine w_skip ?_
                    refine e_blk ?_
                    refine e_seq ?_
                    refine w_region ?_
                    refine o_y (y_move rfl) rfl rfl ?_
                    refine o_y (y_addi rfl rfl (by omega) (by omega)) rfl rfl ?_
                    refine o_y (y_assign rfl) rfl rfl ?_
                    refine wl_nil ?_
                    refine e_back ((i2 + 1, long)) ?_ ?_ ⟨rfl, rfl, trivial⟩ (by repeat (first | exact trivial | refine ⟨rfl, ?_⟩)) (fun w h => h)
                    · exact ⟨by show i2 + 1 ≤ _; omega, long_no hI.2 h33_2 h35_2⟩
                    · show l.length - (i2 + 1) < l.length - i2
                      omega
              · skip
                refine wl_nil ?_
                refine e_seq ?_
                refine w_cond_f rfl ?_
                refine w_exit ?_
                refine e_seq_exit ?_
                refine e_loop_exit ?_
                refine e_blk_hit ?_
                refine e_seq ?_
                refine w_seq ?_
                refine w_seq ?_
                obtain rfl : i2 = l.length := by omega
                refine w_region ?_
                refine o_y (y_move rfl) rfl rfl ?_
                refine o_y (y_eql rfl rfl) rfl rfl ?_
                refine wl_splitp (t := 166) rfl (fun h37_1 => ?_) (fun h37_1 => ?_)
                · skip
                  refine wl_nil ?_
                  refine e_seq ?_
                  refine w_cond_t rfl ?_
                  refine w_seq ?_
                  refine w_region ?_
                  refine o_y (y_move rfl) rfl rfl ?_
                  refine o_y (y_not rfl) rfl rfl ?_
                  refine o_y (y_assign rfl) rfl rfl ?_
                  refine wl_nil ?_
                  refine e_seq ?_
                  refine w_ret ?_
                  refine e_seq_ret ?_
                  refine e_ret (ts := [6]) rfl rfl rfl (fun w hw => ?_)
                  have hln := long_none hix hT hI.2 (by omega)
                  exact ⟨(), by rw [hln]; rfl, hw.base, (hw.weak (List.nil_sublist _) (fun s hs => hs)).toNews⟩
                · skip
                  have hls := long_some hix hT hI.2 (by omega)
                  have hhf := (fi_bnd hix hok (fi_mem2 hix n)).h
                  have hls3 := hls.2.2
                  refine wl_nil ?_
                  refine e_seq ?_
                  refine w_cond_f rfl ?_
                  refine w_skip ?_
                  refine e_seq ?_
                  refine w_seq ?_
                  refine w_region ?_
                  refine o_y (y_move rfl) rfl rfl ?_
                  refine wl_as (t := 169) (.bool true) rfl (congrArg Value.bool hls.1) ?_
                  refine o_y (y_move rfl) rfl rfl ?_
                  refine wl_gyes rfl rfl ?_
                  refine o_y (y_field fa_50_0 rfl) rfl rfl ?_
                  refine wl_gyes rfl rfl ?_
                  refine o_y (y_loadr 0 ty_25 rfl rfl rfl) rfl rfl ?_
                  refine wl_gyes rfl rfl ?_
                  refine o_y (y_move rfl) rfl rfl ?_
                  refine wl_gyes rfl rfl ?_
                  refine o_callp rfl ent_35 (p_ref02_Matches _ _ (by omega) (by omega)) rfl ?_
                  refine wl_as (t := 174) (.bool true) rfl (congrArg Value.bool hls.2.1) ?_
                  refine o_y (y_pick_t rfl rfl) rfl rfl ?_
                  refine o_y (y_move rfl) rfl rfl ?_
                  refine wl_gyes rfl rfl ?_
                  refine o_y (y_field fa_50_0 rfl) rfl rfl ?_
                  refine wl_gyes rfl rfl ?_
                  refine o_y (y_loadr 0 ty_25 rfl rfl rfl) rfl rfl ?_
                  refine wl_gyes rfl rfl ?_
                  refine o_callr1 rfl ent_21 rfl (c_ref02_Labels _) (fun w hw => rd_nil) (fun ⟨A8, c8⟩ => ?_)
                  refine wl_gyes rfl rfl ?_
                  refine o_y (y_lenl Try.underlying36 rfl) rfl rfl ?_
                  refine wl_gyes rfl rfl ?_
                  refine o_y (y_move rfl) rfl rfl ?_
                  refine wl_gyes rfl rfl ?_
                  refine o_y (y_eql rfl rfl) rfl rfl ?_
                  refine wl_at (t := 182) rfl (by omega) ?_
                  refine o_y (y_pick_t rfl rfl) rfl rfl ?_
                  refine o_y (y_assign rfl) rfl rfl ?_
                  refine wl_nil ?_
                  refine e_seq ?_
                  refine w_ret ?_
                  refine e_ret (ts := [6]) rfl rfl rfl (fun w hw => ?_)
                  exact ⟨(), rfl, hw.base, (hw.weak (List.nil_sublist _) (fun s hs => hs)).toNews⟩
      · skip
        refine wl_gyes rfl rfl ?_
        refine o_y (y_not rfl) rfl rfl ?_
        refine o_y (y_pick_f rfl rfl) rfl rfl ?_
        refine o_y (y_move rfl) rfl rfl ?_
        refine wl_gno rfl rfl rfl rfl ?_
        refine wl_gno rfl rfl rfl rfl ?_
        refine wl_gno rfl rfl rfl rfl ?_
        refine o_y (y_pick_t rfl rfl) rfl rfl ?_
        refine wl_nil ?_
        refine e_seq ?_
        refine w_cond_t rfl ?_
        refine w_seq ?_
        refine w_region ?_
        refine o_y (y_assign rfl) rfl rfl ?_
        refine wl_nil ?_
        refine e_seq ?_
        refine w_ret ?_
        refine e_seq_ret ?_
        refine e_ret (ts := [6]) rfl rfl rfl (fun w hw => ?_)
        exact ⟨(), rfl, hw.base, (hw.weak (List.nil_sublist _) (fun s hs => hs)).toNews⟩
    · skip
      refine o_y (y_not rfl) rfl rfl ?_
      refine o_y (y_move rfl) rfl rfl ?_
      refine wl_gno rfl rfl rfl rfl ?_
      refine wl_gno rfl rfl rfl rfl ?_
      refine wl_gno rfl rfl rfl rfl ?_
      refine o_y (y_pick_t rfl rfl) rfl rfl ?_
      refine o_y (y_move rfl) rfl rfl ?_
      refine wl_gno rfl rfl rfl rfl ?_
      refine wl_gno rfl rfl rfl rfl ?_
      refine wl_gno rfl rfl rfl rfl ?_
      refine o_y (y_pick_t rfl rfl) rfl rfl ?_
      refine wl_nil ?_
      refine e_seq ?_
      refine w_cond_t rfl ?_
      refine w_seq ?_
      refine w_region ?_
      refine o_y (y_assign rfl) rfl rfl ?_
      refine wl_nil ?_
      refine e_seq ?_
      refine w_ret ?_
      refine e_seq_ret ?_
      refine e_ret (ts := [6]) rfl rfl rfl (fun w hw => ?_)
      exact ⟨(), rfl, hw.base, (hw.weak (List.nil_sublist _) (fun s hs => hs)).toNews⟩
  · skip
    refine w_seq ?_
    refine w_region ?_
    refine o_box rfl rfl rfl (fun b10 => ?_)
    refine o_y (y_assign rfl) rfl rfl ?_
    refine wl_nil ?_
    refine e_seq ?_
    refine w_seq ?_
    refine w_seq ?_
    refine w_region ?_
    refine o_callp rfl ent_30 c_lives18 rfl ?_
    refine wl_as (t := 24) (.bool true) rfl (congrArg Value.bool rfl) ?_
    refine o_y (y_not rfl) rfl rfl ?_
    refine wl_nil ?_
    refine e_seq ?_
    refine w_cond_f rfl ?_
    refine w_skip ?_
    refine e_seq ?_
    refine w_seq ?_
    refine w_seq ?_
    refine w_region ?_
    refine o_y (y_field fa_41_1 rfl) rfl rfl ?_
    refine o_y (y_loadr 0 ty_39 rfl rfl rfl) rfl rfl ?_
    refine o_callq rfl ent_24 rfl (c_LightEntries _ _ _ _ (by omega)) (fun w hw => (rd_cons (rd_S 0 rfl hw) rd_nil)) ?_
    refine wl_splitb (t := 28) rfl (fun h3_2 => ?_) (fun h3_2 => ?_)
    · skip
      have hle9 := lightEs_le h3_2
      have hok : TbOk l := fun x hx => ⟨hen x hx, hle9.1 x hx⟩
      have hl9 := hle9.2
      refine o_y (y_not rfl) rfl rfl ?_
      refine o_y (y_move rfl) rfl rfl ?_
      refine wl_gyes rfl rfl ?_
      refine o_y (y_move rfl) rfl rfl ?_
      refine wl_gyes rfl rfl ?_
      refine o_callq rfl ent_31 rfl (c_LightHeld _ _ _ _ (by omega)) (fun w hw => (rd_cons (rd_S 2 rfl hw) rd_nil)) ?_
      refine wl_splitb (t := 32) rfl (fun h3_6 => ?_) (fun h3_6 => ?_)
      · skip
        have hlh := lightHs_le h3_6
        have hlh2 := hlh.2
        have hhs : ∀ h ∈ hs, 0 ≤ h.ad.lo := fun h hh => (hhen h hh).2.2.2.1
        have hhh : ∀ h ∈ hs, h.host.length ≤ 1000 ∧ 0 ≤ h.ad.lo := fun h hh => ⟨by have := hlh.1 h hh; omega, hhs h hh⟩
        refine wl_gyes rfl rfl ?_
        refine o_y (y_not rfl) rfl rfl ?_
        refine o_y (y_pick_f rfl rfl) rfl rfl ?_
        refine o_y (y_move rfl) rfl rfl ?_
        refine wl_gyes rfl rfl ?_
        refine o_y (y_move rfl) rfl rfl ?_
        refine wl_gyes rfl rfl ?_
        refine o_y (y_lens Try.underlying25 rfl) rfl rfl ?_
        refine wl_gyes rfl rfl ?_
        refine o_y (y_gtr rfl rfl) rfl rfl ?_
        refine wl_splitp (t := 38) rfl (fun h3_12 => ?_) (fun h3_12 => ?_)
        · skip
          refine o_y (y_pick_f rfl rfl) rfl rfl ?_
          refine wl_nil ?_
          refine e_seq ?_
          refine w_cond_t rfl ?_
          refine w_seq ?_
          refine w_region ?_
          refine o_y (y_assign rfl) rfl rfl ?_
          refine wl_nil ?_
          refine e_seq ?_
          refine w_ret ?_
          refine e_seq_ret ?_
          refine e_ret (ts := [6]) rfl rfl rfl (fun w hw => ?_)
          exact ⟨(), rfl, hw.base, (hw.weak (List.nil_sublist _) (fun s hs => hs)).toNews⟩
        · skip
          refine o_y (y_pick_f rfl rfl) rfl rfl ?_
          refine wl_nil ?_
          refine e_seq ?_
          refine w_cond_f rfl ?_
          refine w_skip ?_
          refine e_seq ?_
          refine w_seq ?_
          refine w_region ?_
          refine o_y (y_loadrs 0 ty_41 rfl rfl rfl rfl) rfl rfl ?_
          refine o_y (y_move rfl) rfl rfl ?_
          refine o_callq rfl ent_25 rfl (c_index_Newbad v l _ _ hok (by omega) hT _ _ _) (fun w hw => (rd_cons (rd_S 0 rfl hw) (rd_cons (rd_S 1 rfl hw) rd_nil))) ?_
          refine o_y (y_move rfl) rfl rfl ?_
          refine o_y (y_extract rfl rfl) rfl rfl ?_
          refine o_y (y_extract rfl rfl) rfl rfl ?_
          refine o_y (y_assign rfl) rfl rfl ?_
          refine o_y (y_assign rfl) rfl rfl ?_
          refine wl_nil ?_
          refine e_seq ?_
          refine w_seq ?_
          refine w_seq ?_
          refine w_region ?_
          refine o_y (y_move rfl) rfl rfl ?_
          refine o_y (y_neq rfl rfl) rfl rfl ?_
          refine wl_at (t := 47) rfl hT ?_
          refine wl_nil ?_
          refine e_seq ?_
          refine w_cond_t rfl ?_
          refine w_seq ?_
          refine w_region ?_
          refine o_y (y_move rfl) rfl rfl ?_
          refine o_y (y_eqp Try.underlying43 rfl rfl) rfl rfl ?_
          refine o_y (y_assign rfl) rfl rfl ?_
          refine wl_nil ?_
          refine e_seq ?_
          refine w_ret ?_
          refine e_seq_ret ?_
          refine e_ret (ts := [6]) rfl rfl rfl (fun w hw => ?_)
          exact ⟨(), rfl, hw.base, (hw.weak (List.nil_sublist _) (fun s hs => hs)).toNews⟩
      · skip
        refine wl_gyes rfl rfl ?_
        refine o_y (y_not rfl) rfl rfl ?_
        refine o_y (y_pick_f rfl rfl) rfl rfl ?_
        refine o_y (y_move rfl) rfl rfl ?_
        refine wl_gno rfl rfl rfl rfl ?_
        refine wl_gno rfl rfl rfl rfl ?_
        refine wl_gno rfl rfl rfl rfl ?_
        refine o_y (y_pick_t rfl rfl) rfl rfl ?_
        refine wl_nil ?_
        refine e_seq ?_
        refine w_cond_t rfl ?_
        refine w_seq ?_
        refine w_region ?_
        refine o_y (y_assign rfl) rfl rfl ?_
        refine wl_nil ?_
        refine e_seq ?_
        refine w_ret ?_
        refine e_seq_ret ?_
        refine e_ret (ts := [6]) rfl rfl rfl (fun w hw => ?_)
        exact ⟨(), rfl, hw.base, (hw.weak (List.nil_sublist _) (fun s hs => hs)).toNews⟩
    · skip
      refine o_y (y_not rfl) rfl rfl ?_
      refine o_y (y_move rfl) rfl rfl ?_
      refine wl_gno rfl rfl rfl rfl ?_
      refine wl_gno rfl rfl rfl rfl ?_
      refine wl_gno rfl rfl rfl rfl ?_
      refine o_y (y_pick_t rfl rfl) rfl rfl ?_
      refine o_y (y_move rfl) rfl rfl ?_
      refine wl_gno rfl rfl rfl rfl ?_
      refine wl_gno rfl rfl rfl rfl ?_
      refine wl_gno rfl rfl rfl rfl ?_
      refine o_y (y_pick_t rfl rfl) rfl rfl ?_
      refine wl_nil ?_
      refine e_seq ?_
      refine w_cond_t rfl ?_
      refine w_seq ?_
      refine w_region ?_
      refine o_y (y_assign rfl) rfl rfl ?_
      refine wl_nil ?_
      refine e_seq ?_
      refine w_ret ?_
      refine e_seq_ret ?_
      refine e_ret (ts := [6]) rfl rfl rfl (fun w hw => ?_)
      exact ⟨(), rfl, hw.base, (hw.weak (List.nil_sublist _) (fun s hs => hs)).toNews⟩

theorem dc_hd {w : World} : Dc Try.prog w 88 (α := Hd) (hdC) (fun _ => []) (fun h => h.host.length ≤ 9223372036854775807 ∧ AdOk h.ad) := fun H enc base sp hd fuel cs x h => by
  obtain ⟨xs, n, rfl, _, hcl, hxl, hf⟩ := DataW.trod_struct Try.underlying88 h
  have hcl2 : cs.length = 4 := hcl.trans (by kernel_rfl)
  obtain ⟨x0, c0, r0, o0⟩ := dc_field hxl hf 0 (ft := 25) (off := 0) (k := 1) (by kernel_rfl) (by kernel_rfl) (dc_str Try.underlying25)
  obtain ⟨x1, c1, r1, o1⟩ := dc_field hxl hf 1 (ft := 66) (off := 1) (k := 3) (by kernel_rfl) (by kernel_rfl) dc_ad
  have hcs := cut0 (cutc c0 (cutc c1 (cutn hcl2) rfl) rfl)
  exact ⟨⟨x0, x1⟩, hcs, nofun, o0, o1⟩

theorem dc_hds {w : World} : Dc Try.prog w 58 (fun p : List Hd × Option Addr × Nat => [.slice p.2.1 p.1.length p.2.2]) (fun p => Ch.rd p.2.1 4 hdC p.1 :: p.1.flatMap (fun _ => [])) (fun p => p.1.length ≤ 9223372036854775807 ∧ ∀ h ∈ p.1, h.host.length ≤ 9223372036854775807 ∧ AdOk h.ad) := dc_slice Try.underlying58 (by kernel_rfl) (by decide) enc_hd dc_hd

end Go.Proofs.Ytckfjfnkombelaa
