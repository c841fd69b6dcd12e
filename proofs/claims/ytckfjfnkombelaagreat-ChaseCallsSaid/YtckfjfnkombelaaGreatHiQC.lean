/- the law of calls of chains -/
import Derived.Test.YtckfjfnkombelaaGreatHhQC
namespace Go.Proofs.YtckfjfnkombelaaGreat
open Go.RowKit Go.Shelf
set_option linter.unusedVariables false
set_option linter.unusedSimpArgs false

theorem ent_13 : Enters Tryz.prog 13 := enters_of Tryz.func13 (by kernel_rfl) rfl
theorem ent_27 : Enters Tryz.prog 27 := enters_of Tryz.func27 (by kernel_rfl) rfl
theorem ent_29 : Enters Tryz.prog 29 := enters_of Tryz.func29 (by kernel_rfl) rfl
theorem ent_30 : Enters Tryz.prog 30 := enters_of Tryz.func30 (by kernel_rfl) rfl
theorem ent_31 : Enters Tryz.prog 31 := enters_of Tryz.func31 (by kernel_rfl) rfl
theorem ent_32 : Enters Tryz.prog 32 := enters_of Tryz.func32 (by kernel_rfl) rfl
theorem ent_34 : Enters Tryz.prog 34 := enters_of Tryz.func34 (by kernel_rfl) rfl
theorem ent_35 : Enters Tryz.prog 35 := enters_of Tryz.func35 (by kernel_rfl) rfl
theorem ent_36 : Enters Tryz.prog 36 := enters_of Tryz.func36 (by kernel_rfl) rfl
theorem ent_37 : Enters Tryz.prog 37 := enters_of Tryz.func37 (by kernel_rfl) rfl
theorem ent_7 : Enters Tryz.prog 7 := enters_of Tryz.func7 (by kernel_rfl) rfl

theorem dc_ch {w : World} : Dc Tryz.prog w 64 (α := List Str × Option Addr × Nat × Int × Le) (fun q => chC q.1.length q.2.1 q.2.2.1 q.2.2.2.1 q.2.2.2.2) (fun q => [Ch.rd q.2.1 1 encs q.1, Ch.rd q.2.2.2.2.A 3 adC q.2.2.2.2.e.addrs, Ch.rd q.2.2.2.2.B 1 enci q.2.2.2.2.e.ports]) (fun q => (q.1.length ≤ 9223372036854775807 ∧ ∀ s ∈ q.1, s.length ≤ 9223372036854775807) ∧ EnOk q.2.2.2.2.e) := fun H enc base sp hd fuel cs x h => by
  obtain ⟨xs, n, rfl, _, hcl, hxl, hf⟩ := DataW.trod_struct Tryz.underlying64 h
  have hcl2 : cs.length = 9 := hcl.trans (by kernel_rfl)
  obtain ⟨⟨x0, A, c⟩, c0, r0, o0⟩ := dc_field hxl hf 0 (ft := 59) (off := 0) (k := 1) (by kernel_rfl) (by kernel_rfl) dc_names
  obtain ⟨x1, c1, r1, o1⟩ := dc_field hxl hf 1 (ft := 3) (off := 1) (k := 1) (by kernel_rfl) (by kernel_rfl) (dc_int Tryz.underlying3)
  obtain ⟨x2, c2, r2, o2⟩ := dc_field hxl hf 2 (ft := 34) (off := 2) (k := 7) (by kernel_rfl) (by kernel_rfl) dc_le
  have hcs := cut0 (cutc c0 (cutc c1 (cutc c2 (cutn hcl2) rfl) rfl) rfl)
  exact ⟨(x0, A, c, x1, x2), hcs, rd_cons (r0 _ (.head _)) (rd_cons (r2 _ (.head _)) (rd_cons (r2 _ (.tail _ (.head _))) nofun)), o0, o2⟩

theorem rd_leA {w : World} {l : List Le} {e : Le} (h : (Ch.rall (l.flatMap elR)).P w ∧ ∀ b, (Ch.rall (l.flatMap elR)).ok b → b < w.heap.size) (hm : e ∈ le0 :: l) : (Ch.rd e.A 3 adC e.e.addrs).P w ∧ ∀ b, (Ch.rd e.A 3 adC e.e.addrs).ok b → b < w.heap.size := by
  rcases List.mem_cons.1 hm with rfl | hm
  · exact elR0 _ (elRA _) w
  · exact rd_all h (mem_flatR hm _ (elRA _))
theorem rd_leB {w : World} {l : List Le} {e : Le} (h : (Ch.rall (l.flatMap elR)).P w ∧ ∀ b, (Ch.rall (l.flatMap elR)).ok b → b < w.heap.size) (hm : e ∈ le0 :: l) : (Ch.rd e.B 1 enci e.e.ports).P w ∧ ∀ b, (Ch.rd e.B 1 enci e.e.ports).ok b → b < w.heap.size := by
  rcases List.mem_cons.1 hm with rfl | hm
  · exact elR0 _ (elRB _) w
  · exact rd_all h (mem_flatR hm _ (elRB _))
theorem hF9 {v : Int} {l : List Le} (h : tabCk v l = 0) : ∀ k r, RefSpec l k r → r.map (·.e) = findE (l.map (·.e)) k := fun k r hr => (ref_find (tab_hosts h) (ref_E hr)).symm
theorem findE_bad {es : List En} {n : Str} (h : nameCk n ≠ 0) : findE es n = none := if_pos h

set_option maxRecDepth 100000 in
set_option maxHeartbeats 4000000 in
theorem c_ChaseCalls (v : Int) (l : List Le) (F : Option Addr) (d : Nat) (n : Str) (l1 : List Str) (A1 : Option Addr) (c1 : Nat) (s1 : Int) (e1 : Le) (l2 : List Str) (A2 : Option Addr) (c2 : Nat) (s2 : Int) (e2 : Le) (hnl : n.length ≤ 9223372036854775807) (hen : ∀ x ∈ l, EnOk x.e) (hll : l.length ≤ 9223372036854775807) (hl1 : l1.length ≤ 9223372036854775807) (hs1 : ∀ s ∈ l1, s.length ≤ 9223372036854775807) (he1 : EnOk e1.e) (hl2 : l2.length ≤ 9223372036854775807) (hs2 : ∀ s ∈ l2, s.length ≤ 9223372036854775807) (he2 : EnOk e2.e) : RC Tryz.prog 4 #[.agg (tbC v F l.length d).toArray, .string (ba n), .agg (chC l1.length A1 c1 s1 e1).toArray, .agg (chC l2.length A2 c2 s2 e2).toArray] [Ch.rd F 7 elC l, Ch.rall (l.flatMap elR), Ch.rd A1 1 encs l1, Ch.rd e1.A 3 adC e1.e.addrs, Ch.rd e1.B 1 enci e1.e.ports, Ch.rd A2 1 encs l2, Ch.rd e2.A 3 adC e2.e.addrs, Ch.rd e2.B 1 enci e2.e.ports] (α := Unit) (fun _ => .bool true) (fun _ => []) := by
  refine rc_of_W (args := [.agg (tbC v F l.length d).toArray, .string (ba n), .agg (chC l1.length A1 c1 s1 e1).toArray, .agg (chC l2.length A2 c2 s2 e2).toArray]) 116 Tryz.func4 rfl rfl rfl (fun w0 => ?_)
  rcases Decidable.em (tabCk v l = 0) with hT | hT
  · skip
    refine w_seq ?_
    refine w_region ?_
    refine o_box rfl rfl rfl (fun b1 => ?_)
    refine o_box rfl rfl rfl (fun b2 => ?_)
    refine o_box rfl rfl rfl (fun b3 => ?_)
    refine o_y (y_assign rfl) rfl rfl ?_
    refine wl_nil ?_
    refine e_seq ?_
    refine w_seq ?_
    refine w_seq ?_
    refine w_region ?_
    refine o_callp rfl ent_27 c_lives21 rfl ?_
    refine wl_as (t := 16) (.bool true) rfl (congrArg Value.bool rfl) ?_
    refine o_y (y_not rfl) rfl rfl ?_
    refine wl_nil ?_
    refine e_seq ?_
    refine w_cond_f rfl ?_
    refine w_skip ?_
    refine e_seq ?_
    refine w_seq ?_
    refine w_seq ?_
    refine w_region ?_
    refine o_y (y_field fa_24_1 rfl) rfl rfl ?_
    refine o_y (y_loadr 2 ty_22 rfl rfl rfl) rfl rfl ?_
    refine o_callq rfl ent_7 rfl (c_LightEntries _ _ _ _ (by omega)) (fun w hw => (rd_cons (rd_S 0 rfl hw) rd_nil)) ?_
    refine wl_splitb (t := 20) rfl (fun h3_2 => ?_) (fun h3_2 => ?_)
    · skip
      have hle9 := lightEs_le h3_2
      have hok : TbOk l := fun x hx => ⟨hen x hx, hle9.1 x hx⟩
      have hl9 := hle9.2
      refine o_y (y_not rfl) rfl rfl ?_
      refine o_y (y_move rfl) rfl rfl ?_
      refine wl_gyes rfl rfl ?_
      refine o_y (y_move rfl) rfl rfl ?_
      refine wl_gyes rfl rfl ?_
      refine o_y (y_lens Tryz.underlying26 rfl) rfl rfl ?_
      refine wl_gyes rfl rfl ?_
      refine o_y (y_gtr rfl rfl) rfl rfl ?_
      refine wl_splitp (t := 25) rfl (fun h3_7 => ?_) (fun h3_7 => ?_)
      · skip
        refine o_y (y_pick_f rfl rfl) rfl rfl ?_
        refine o_y (y_move rfl) rfl rfl ?_
        refine wl_gno rfl rfl rfl rfl ?_
        refine wl_gno rfl rfl rfl rfl ?_
        refine wl_gno rfl rfl rfl rfl ?_
        refine wl_gno rfl rfl rfl rfl ?_
        refine o_y (y_pick_t rfl rfl) rfl rfl ?_
        refine o_y (y_move rfl) rfl rfl ?_
        refine wl_gno rfl rfl rfl rfl ?_
        refine wl_gno rfl rfl rfl rfl ?_
        refine wl_gno rfl rfl rfl rfl ?_
        refine wl_gno rfl rfl rfl rfl ?_
        refine o_y (y_pick_t rfl rfl) rfl rfl ?_
        refine o_y (y_move rfl) rfl rfl ?_
        refine wl_gno rfl rfl rfl rfl ?_
        refine wl_gno rfl rfl rfl rfl ?_
        refine wl_gno rfl rfl rfl rfl ?_
        refine wl_gno rfl rfl rfl rfl ?_
        refine o_y (y_pick_t rfl rfl) rfl rfl ?_
        refine o_y (y_move rfl) rfl rfl ?_
        refine wl_gno rfl rfl rfl rfl ?_
        refine wl_gno rfl rfl rfl rfl ?_
        refine wl_gno rfl rfl rfl rfl ?_
        refine wl_gno rfl rfl rfl rfl ?_
        refine o_y (y_pick_t rfl rfl) rfl rfl ?_
        refine wl_nil ?_
        refine e_seq ?_
        refine w_cond_t rfl ?_
        refine w_seq ?_
        refine w_region ?_
        refine o_y (y_assign rfl) rfl rfl ?_
        refine wl_nil ?_
        refine e_seq ?_
        refine w_ret ?_
        refine e_seq_ret ?_
        refine e_ret (ts := [8]) rfl rfl rfl (fun w hw => ?_)
        exact ⟨(), rfl, hw.base, (hw.weak (List.nil_sublist _) (fun s hs => hs)).toNews⟩
      · skip
        refine o_y (y_pick_f rfl rfl) rfl rfl ?_
        refine o_y (y_move rfl) rfl rfl ?_
        refine wl_gyes rfl rfl ?_
        refine o_y (y_field fa_64_0 rfl) rfl rfl ?_
        refine wl_gyes rfl rfl ?_
        refine o_y (y_loadr 1 ty_59 rfl rfl rfl) rfl rfl ?_
        refine wl_gyes rfl rfl ?_
        refine o_callq rfl ent_28 rfl (c_LightNames _ _ _ _ (by omega)) (fun w hw => (rd_cons (rd_S 2 rfl hw) rd_nil)) ?_
        refine wl_splitb (t := 30) rfl (fun h3_12 => ?_) (fun h3_12 => ?_)
        · skip
          have hn9 := lightN_le h3_12
          refine wl_gyes rfl rfl ?_
          refine o_y (y_not rfl) rfl rfl ?_
          refine o_y (y_pick_f rfl rfl) rfl rfl ?_
          refine o_y (y_move rfl) rfl rfl ?_
          refine wl_gyes rfl rfl ?_
          refine o_y (y_field fa_64_0 rfl) rfl rfl ?_
          refine wl_gyes rfl rfl ?_
          refine o_y (y_loadr 0 ty_59 rfl rfl rfl) rfl rfl ?_
          refine wl_gyes rfl rfl ?_
          refine o_callq rfl ent_28 rfl (c_LightNames _ _ _ _ (by omega)) (fun w hw => (rd_cons (rd_S 5 rfl hw) rd_nil)) ?_
          refine wl_splitb (t := 36) rfl (fun h3_18 => ?_) (fun h3_18 => ?_)
          · skip
            have hn8 := lightN_le h3_18
            refine wl_gyes rfl rfl ?_
            refine o_y (y_not rfl) rfl rfl ?_
            refine o_y (y_pick_f rfl rfl) rfl rfl ?_
            refine o_y (y_move rfl) rfl rfl ?_
            refine wl_gyes rfl rfl ?_
            refine o_y (y_field fa_64_2 rfl) rfl rfl ?_
            refine wl_gyes rfl rfl ?_
            refine o_y (y_loadrs 1 ty_34 rfl rfl rfl rfl) rfl rfl ?_
            refine wl_gyes rfl rfl ?_
            refine o_callp rfl ent_9 (c_LightEntry _ _ _ _ _) rfl ?_
            refine wl_splitb (t := 42) rfl (fun h3_24 => ?_) (fun h3_24 => ?_)
            · skip
              refine wl_gyes rfl rfl ?_
              refine o_y (y_not rfl) rfl rfl ?_
              refine o_y (y_pick_f rfl rfl) rfl rfl ?_
              refine o_y (y_move rfl) rfl rfl ?_
              refine wl_gyes rfl rfl ?_
              refine o_y (y_field fa_64_2 rfl) rfl rfl ?_
              refine wl_gyes rfl rfl ?_
              refine o_y (y_loadrs 0 ty_34 rfl rfl rfl rfl) rfl rfl ?_
              refine wl_gyes rfl rfl ?_
              refine o_callp rfl ent_9 (c_LightEntry _ _ _ _ _) rfl ?_
              refine wl_splitb (t := 48) rfl (fun h3_30 => ?_) (fun h3_30 => ?_)
              · skip
                refine wl_gyes rfl rfl ?_
                refine o_y (y_not rfl) rfl rfl ?_
                refine o_y (y_pick_f rfl rfl) rfl rfl ?_
                refine wl_nil ?_
                refine e_seq ?_
                refine w_cond_f rfl ?_
                refine w_skip ?_
                refine e_seq ?_
                refine w_seq ?_
                refine w_region ?_
                refine o_y (y_loadrs 2 ty_24 rfl rfl rfl rfl) rfl rfl ?_
                refine o_callr1 rfl ent_13 rfl (c_ref18_New0 v l F d hok (by omega) hT) (fun w hw => (rd_cons (rd_S 0 rfl hw) (rd_cons (rd_S 1 rfl hw) rd_nil))) (fun ⟨rb, rH, rh⟩ => ?_)
                refine o_y (y_move rfl) rfl rfl ?_
                refine o_y (y_extract rfl rfl) rfl rfl ?_
                refine o_y (y_extract rfl rfl) rfl rfl ?_
                refine o_y (y_assign rfl) rfl rfl ?_
                refine o_y (y_assign rfl) rfl rfl ?_
                refine wl_nil ?_
                refine e_seq ?_
                refine w_seq ?_
                refine w_region ?_
                refine o_y (y_loadrs 3 ty_24 rfl rfl rfl rfl) rfl rfl ?_
                refine o_callr1 rfl ent_10 rfl (c_index_New0 v l F d hok (by omega) hT) (fun w hw => (rd_cons (rd_S 0 rfl hw) (rd_cons (rd_S 1 rfl hw) rd_nil))) (fun ⟨ix, hix⟩ => ?_)
                refine wl_heap (fun w h => h.ixOpen) ?_
                refine o_y (y_move rfl) rfl rfl ?_
                refine o_y (y_extract rfl rfl) rfl rfl ?_
                refine o_y (y_extract rfl rfl) rfl rfl ?_
                refine o_y (y_assign rfl) rfl rfl ?_
                refine o_y (y_assign rfl) rfl rfl ?_
                refine wl_nil ?_
                refine e_seq ?_
                refine w_seq ?_
                refine w_seq ?_
                refine w_region ?_
                refine o_y (y_move rfl) rfl rfl ?_
                refine o_y (y_neq rfl rfl) rfl rfl ?_
                refine wl_af (t := 62) rfl (fun h9 => h9 rfl) ?_
                refine wl_nil ?_
                refine e_seq ?_
                refine w_cond_f rfl ?_
                refine w_skip ?_
                refine e_seq ?_
                refine w_seq ?_
                refine w_draw 8 rfl mixed ?_
                refine a_take (i := 0) rfl wanted_none (y_move rfl) (fun w h => h) (fun w h => h) rfl (pk_seq pk_fn) (by kernel_rfl) rfl ?_
                refine a_take (i := 1) rfl wanted_none (y_loadrs 3 ty_64 rfl rfl rfl rfl) (fun w h => h) (fun w h => h) rfl (pk_seq pk_fn) (by kernel_rfl) rfl ?_
                refine a_take (i := 3) rfl wanted_none (y_move rfl) (fun w h => h) (fun w h => h) rfl (pk_seq pk_fn) (by kernel_rfl) rfl ?_
                refine a_take (i := 4) rfl wanted_none (y_loadrs 3 ty_64 rfl rfl rfl rfl) (fun w h => h) (fun w h => h) rfl (pk_seq pk_fn) (by kernel_rfl) rfl ?_
                refine a_one (i := 2) rfl rfl rfl (tame_call rfl ent_29) (by kernel_rfl) rfl ?_
                refine o_callr1 rfl ent_29 rfl (c_Hops ix l1 _ _ _ _ (by omega)) (fun w hw => (rd_cons (rd_all (rd_L 0 rfl hw) (.head _)) (rd_cons (rd_all (rd_L 0 rfl hw) (.tail _ (.head _))) (rd_cons (rd_S 2 rfl hw) rd_nil)))) (fun ⟨A5, c5⟩ => ?_)
                refine wl_nil ?_
                refine e_one (fun w h => h.weak (.cons _ (List.Sublist.refl _)) (fun s hs => hs)) ?_
                refine a_one (i := 5) rfl rfl rfl (tame_call rfl ent_30) (by kernel_rfl) rfl ?_
                refine o_callr1 rfl ent_30 rfl (c_ref21_Hops v l F d rb rH rh (findE (l.map (·.e))) (hF9 hT) hok (by omega) l1 _ _ _ _ (by omega) (fun s hs => by have := hn9.1 s hs; omega)) (fun w hw => (rd_cons (rd_L 2 rfl hw) (rd_cons (rd_S 0 rfl hw) (rd_cons (rd_S 1 rfl hw) (rd_cons (rd_S 2 rfl hw) rd_nil))))) (fun ⟨A6, c6⟩ => ?_)
                refine wl_nil ?_
                refine e_one (fun w h => h.weak (.cons _ (.cons _ (List.Sublist.refl _))) (fun s hs => hs)) ?_
                refine a_take (i := 6) rfl wanted_none (y_assign rfl) (fun w h => h.weak (.cons _ (.cons _ (List.Sublist.refl _))) (fun s hs => hs)) (fun w h => h) rfl (pk_seq pk_fn) (by kernel_rfl) rfl ?_
                refine a_take (i := 7) rfl wanted_none (y_assign rfl) (fun w h => h.weak (.cons _ (.cons _ (List.Sublist.refl _))) (fun s hs => hs)) (fun w h => h) rfl (pk_seq pk_fn) (by kernel_rfl) rfl ?_
                refine a_done (by kernel_rfl) ?_
                refine e_seq ?_
                refine w_seq ?_
                refine w_seq ?_
                have hhe : hopsI ix.hm l1 = hopsO (findE (l.map (·.e))) l1 := hops_E hix l1
                have hhl := congrArg List.length hhe
                have hhb : (hopsI ix.hm l1).length ≤ l1.length := by
                  have h1 := hops_len (m := ix.hm) (q := pairs l1)
                  rw [pairs_len] at h1
                  exact Nat.le_trans h1 (Nat.sub_le _ _)
                refine w_region ?_
                refine o_y (y_move rfl) rfl rfl ?_
                refine o_y (y_lenl Tryz.underlying66 rfl) rfl rfl ?_
                refine o_y (y_move rfl) rfl rfl ?_
                refine o_y (y_lenl Tryz.underlying66 rfl) rfl rfl ?_
                refine o_y (y_neq rfl rfl) rfl rfl ?_
                refine wl_af (t := 76) rfl (fun h => h (by omega)) ?_
                refine wl_nil ?_
                refine e_seq ?_
                refine w_cond_f rfl ?_
                refine w_skip ?_
                refine e_seq ?_
                refine w_seq ?_
                refine w_seq ?_
                refine w_region ?_
                refine o_y (y_assign rfl) rfl rfl ?_
                refine wl_nil ?_
                refine e_seq ?_
                refine w_block ?_
                refine w_loop0 (σ := Nat) [8, 15, 77, 78, 79, 80, 81, 82, 83, 84, 85, 86, 87, 88, 89, 90, 91, 92] (fun k => k ≤ (hopsI ix.hm l1).length) (fun k => (hopsI ix.hm l1).length - k) (fun k => [(15, .int .i64 k)]) (0) ?_ ⟨rfl, trivial⟩ (fun k hI => ?_)
                · exact Nat.zero_le _
                refine w_seq ?_
                refine w_seq ?_
                refine w_region ?_
                refine o_y (y_move rfl) rfl rfl ?_
                refine o_y (y_move rfl) rfl rfl ?_
                refine o_y (y_lenl Tryz.underlying66 rfl) rfl rfl ?_
                refine o_y (y_lss rfl rfl) rfl rfl ?_
                refine wl_splitp (t := 80) rfl (fun h13_3 => ?_) (fun h13_3 => ?_)
                · skip
                  refine wl_nil ?_
                  refine e_seq ?_
                  refine w_cond_t rfl ?_
                  refine w_skip ?_
                  refine e_seq ?_
                  refine w_seq ?_
                  refine w_block ?_
                  refine w_seq ?_
                  refine w_draw 10 rfl mixed ?_
                  refine a_take (i := 0) rfl wanted_none (y_move rfl) (fun w h => h) (fun w h => h) rfl (pk_seq (pk_blk (pk_seq (pk_loop (pk_blk (pk_seq pk_fn)))))) (by kernel_rfl) rfl ?_
                  refine a_take (i := 1) rfl wanted_none (y_move rfl) (fun w h => h) (fun w h => h) rfl (pk_seq (pk_blk (pk_seq (pk_loop (pk_blk (pk_seq pk_fn)))))) (by kernel_rfl) rfl ?_
                  refine a_take (i := 2) rfl wanted_none (y_ixm  Tryz.underlying66 ty_75 rfl rfl (rs_L 1 rfl) rfl (by omega)) (fun w h => h) (fun w h => h) rfl (pk_seq (pk_blk (pk_seq (pk_loop (pk_blk (pk_seq pk_fn)))))) (by kernel_rfl) rfl ?_
                  refine a_take (i := 3) rfl wanted_none (y_ldsm0 enc_rc rc0 ty_75 rfl (rs_L 1 rfl) (by omega) rfl rfl rfl) (fun w h => h) (fun w h => h) rfl (pk_seq (pk_blk (pk_seq (pk_loop (pk_blk (pk_seq pk_fn)))))) (by kernel_rfl) rfl ?_
                  refine a_take (i := 4) rfl wanted_none (y_move rfl) (fun w h => h) (fun w h => h) rfl (pk_seq (pk_blk (pk_seq (pk_loop (pk_blk (pk_seq pk_fn)))))) (by kernel_rfl) rfl ?_
                  refine a_take (i := 5) rfl wanted_none (y_move rfl) (fun w h => h) (fun w h => h) rfl (pk_seq (pk_blk (pk_seq (pk_loop (pk_blk (pk_seq pk_fn)))))) (by kernel_rfl) rfl ?_
                  refine a_take (i := 6) rfl wanted_none (y_ixm  Tryz.underlying66 ty_75 rfl rfl (rs_L 0 rfl) rfl (by omega)) (fun w h => h) (fun w h => h) rfl (pk_seq (pk_blk (pk_seq (pk_loop (pk_blk (pk_seq pk_fn)))))) (by kernel_rfl) rfl ?_
                  refine a_take (i := 7) rfl wanted_none (y_ldsm0 enc_rc rc0 ty_75 rfl (rs_L 0 rfl) (by omega) rfl rfl rfl) (fun w h => h) (fun w h => h) rfl (pk_seq (pk_blk (pk_seq (pk_loop (pk_blk (pk_seq pk_fn)))))) (by kernel_rfl) rfl ?_
                  refine a_one (i := 8) rfl rfl rfl (tame_call rfl ent_31) (by kernel_rfl) rfl ?_
                  refine o_callp rfl ent_31 (c_ref10_Same _ _) rfl ?_
                  refine wl_nil ?_
                  refine e_one (fun w h => h) ?_
                  refine wa_as (t := 91) (.bool true) rfl (congrArg Value.bool (decide_eq_true (by rw [hhe]))) ?_
                  refine a_take (i := 9) rfl wanted_none (y_not rfl) (fun w h => h) (fun w h => h) rfl (pk_seq (pk_blk (pk_seq (pk_loop (pk_blk (pk_seq pk_fn)))))) (by kernel_rfl) rfl ?_
                  refine a_done (by kernel_rfl) ?_
                  refine e_seq ?_
                  refine w_cond_f rfl ?_
                  refine w_skip ?_
                  refine e_blk ?_
                  refine e_seq ?_
                  refine w_region ?_
                  refine o_y (y_move rfl) rfl rfl ?_
                  refine o_y (y_addi rfl rfl (by omega) (by omega)) rfl rfl ?_
                  refine o_y (y_assign rfl) rfl rfl ?_
                  refine wl_nil ?_
                  refine e_back (k + 1) ?_ ?_ ⟨rfl, trivial⟩ (by repeat (first | exact trivial | refine ⟨rfl, ?_⟩)) (fun w h => h)
                  · omega
                  · omega
                · skip
                  refine wl_nil ?_
                  refine e_seq ?_
                  refine w_cond_f rfl ?_
                  refine w_exit ?_
                  refine e_seq_exit ?_
                  refine e_loop_exit ?_
                  refine e_blk_hit ?_
                  refine e_seq ?_
                  refine w_seq ?_
                  refine w_draw 24 rfl mixed ?_
                  refine a_take (i := 0) rfl wanted_none (y_move rfl) (fun w h => h) (fun w h => h) rfl (pk_seq pk_fn) (by kernel_rfl) rfl ?_
                  refine a_take (i := 1) rfl wanted_none (y_move rfl) (fun w h => h) (fun w h => h) rfl (pk_seq pk_fn) (by kernel_rfl) rfl ?_
                  refine a_take (i := 3) rfl wanted_none (y_move rfl) (fun w h => h) (fun w h => h) rfl (pk_seq pk_fn) (by kernel_rfl) rfl ?_
                  refine a_take (i := 4) rfl wanted_none (y_move rfl) (fun w h => h) (fun w h => h) rfl (pk_seq pk_fn) (by kernel_rfl) rfl ?_
                  refine a_one (i := 2) rfl rfl rfl (tame_call rfl ent_33) (by kernel_rfl) rfl ?_
                  refine o_callr1 rfl ent_33 rfl (c_Follow ix n) (fun w hw => (rd_cons (rd_all (rd_L 2 rfl hw) (.head _)) (rd_cons (rd_all (rd_L 2 rfl hw) (.tail _ (.head _))) rd_nil))) (fun ⟨A7, c7⟩ => ?_)
                  refine wl_nil ?_
                  refine e_one (fun w h => h.weak (.cons _ (List.Sublist.refl _)) (fun s hs => hs)) ?_
                  refine a_one (i := 5) rfl rfl rfl (tame_call rfl ent_34) (by kernel_rfl) rfl ?_
                  refine o_callr1 rfl ent_34 rfl (c_ref21_Follow v l F d rb rH rh (findE (l.map (·.e))) (hF9 hT) hok (by omega) n (fun h => findE_bad h) (by omega)) (fun w hw => (rd_cons (rd_L 4 rfl hw) (rd_cons (rd_S 0 rfl hw) (rd_cons (rd_S 1 rfl hw) rd_nil)))) (fun ⟨⟨A8, c8⟩, ⟨e9, he9, hm9⟩⟩ => ?_)
                  refine wl_nil ?_
                  refine e_one (fun w h => h.weak (.cons _ (.cons _ (List.Sublist.refl _))) (fun s hs => hs)) ?_
                  refine a_one (i := 6) rfl rfl rfl (tame_call rfl ent_32) (by kernel_rfl) rfl ?_
                  refine o_callq rfl ent_32 rfl (c_ref21_Same (chN ix.hm n) _ _ (chS ix.hm n) (chE ix.hm n) _ _ _ _ e9 (by have := ch_len ix.hm n; omega) (by have := (ix_bnd hix hok (chE_mem hix n)).la; omega) (by have := (ix_bnd hix hok (chE_mem hix n)).lp; omega)) (fun w hw => (rd_cons (rd_Ls 1 rfl hw) (rd_cons (rd_all (rd_L 4 rfl hw) (.tail _ (.tail _ (mem_flatR (chE_mem hix n) _ (elRA _))))) (rd_cons (rd_all (rd_L 4 rfl hw) (.tail _ (.tail _ (mem_flatR (chE_mem hix n) _ (elRB _))))) (rd_cons (rd_Ls 0 rfl hw) (rd_cons (rd_leA (rd_S 1 rfl hw) hm9) (rd_cons (rd_leB (rd_S 1 rfl hw) hm9) rd_nil))))))) ?_
                  refine wl_nil ?_
                  refine e_one (fun w h => h.weak (.cons _ (.cons _ (List.Sublist.refl _))) (fun s hs => hs)) ?_
                  refine wa_as (t := 99) (.bool true) rfl (congrArg Value.bool (by simp only [Bool.and_eq_true, decide_eq_true_eq]; exact ⟨⟨chS_E hix n, chN_E hix n⟩, (chE_E hix n).trans he9.symm⟩)) ?_
                  refine a_take (i := 7) rfl wanted_none (y_move rfl) (fun w h => h.weak (.cons _ (.cons _ (List.Sublist.refl _))) (fun s hs => hs)) (fun w h => h) rfl (pk_seq pk_fn) (by kernel_rfl) rfl ?_
                  refine a_take (i := 8) rfl (wanted_yes rfl rfl) (y_loadrs 5 ty_64 rfl rfl rfl rfl) (fun w h => h.weak (.cons _ (.cons _ (List.Sublist.refl _))) (fun s hs => hs)) (fun w h => h) rfl (pk_seq pk_fn) (by kernel_rfl) rfl ?_
                  refine a_take (i := 10) rfl (wanted_yes rfl rfl) (y_loadrs 5 ty_64 rfl rfl rfl rfl) (fun w h => h.weak (.cons _ (.cons _ (List.Sublist.refl _))) (fun s hs => hs)) (fun w h => h) rfl (pk_seq pk_fn) (by kernel_rfl) rfl ?_
                  refine a_one (i := 9) rfl rfl rfl (tame_call rfl ent_35) (by kernel_rfl) rfl ?_
                  refine wl_gyes rfl rfl ?_
                  refine o_callq rfl ent_35 rfl (c_Last l1 _ _ _ _ (by omega)) (fun w hw => (rd_cons (rd_S 2 rfl hw) rd_nil)) ?_
                  refine wl_nil ?_
                  refine e_one (fun w h => h.weak (.cons _ (.cons _ (List.Sublist.refl _))) (fun s hs => hs)) ?_
                  refine a_one (i := 11) rfl rfl rfl (tame_call rfl ent_36) (by kernel_rfl) rfl ?_
                  refine wl_gyes rfl rfl ?_
                  refine o_callq rfl ent_36 rfl (c_ref21_Last l1 _ _ _ _ (by omega)) (fun w hw => (rd_cons (rd_S 2 rfl hw) rd_nil)) ?_
                  refine wl_nil ?_
                  refine e_one (fun w h => h.weak (.cons _ (.cons _ (List.Sublist.refl _))) (fun s hs => hs)) ?_
                  refine a_take (i := 12) rfl (wanted_yes rfl rfl) (y_eqls rfl rfl) (fun w h => h.weak (.cons _ (.cons _ (List.Sublist.refl _))) (fun s hs => hs)) (fun w h => h) rfl (pk_seq pk_fn) (by kernel_rfl) rfl ?_
                  refine wa_at (t := 105) rfl rfl ?_
                  refine a_take (i := 13) rfl wanted_none (y_pick_t rfl rfl) (fun w h => h.weak (.cons _ (.cons _ (List.Sublist.refl _))) (fun s hs => hs)) (fun w h => h) rfl (pk_seq pk_fn) (by kernel_rfl) rfl ?_
                  refine a_take (i := 14) rfl wanted_none (y_move rfl) (fun w h => h.weak (.cons _ (.cons _ (List.Sublist.refl _))) (fun s hs => hs)) (fun w h => h) rfl (pk_seq pk_fn) (by kernel_rfl) rfl ?_
                  refine a_take (i := 15) rfl (wanted_yes rfl rfl) (y_loadrs 5 ty_64 rfl rfl rfl rfl) (fun w h => h.weak (.cons _ (.cons _ (List.Sublist.refl _))) (fun s hs => hs)) (fun w h => h) rfl (pk_seq pk_fn) (by kernel_rfl) rfl ?_
                  refine a_take (i := 16) rfl (wanted_yes rfl rfl) (y_loadrs 4 ty_64 rfl rfl rfl rfl) (fun w h => h.weak (.cons _ (.cons _ (List.Sublist.refl _))) (fun s hs => hs)) (fun w h => h) rfl (pk_seq pk_fn) (by kernel_rfl) rfl ?_
                  refine a_take (i := 18) rfl (wanted_yes rfl rfl) (y_loadrs 5 ty_64 rfl rfl rfl rfl) (fun w h => h.weak (.cons _ (.cons _ (List.Sublist.refl _))) (fun s hs => hs)) (fun w h => h) rfl (pk_seq pk_fn) (by kernel_rfl) rfl ?_
                  refine a_take (i := 19) rfl (wanted_yes rfl rfl) (y_loadrs 4 ty_64 rfl rfl rfl rfl) (fun w h => h.weak (.cons _ (.cons _ (List.Sublist.refl _))) (fun s hs => hs)) (fun w h => h) rfl (pk_seq pk_fn) (by kernel_rfl) rfl ?_
                  refine a_one (i := 17) rfl rfl rfl (tame_call rfl ent_37) (by kernel_rfl) rfl ?_
                  refine wl_gyes rfl rfl ?_
                  refine o_callq rfl ent_37 rfl (c_chase_Same l1 A1 c1 s1 e1 l2 A2 c2 s2 e2 (by omega) (by have := light_le h3_24; omega) (by have := light_le h3_24; omega)) (fun w hw => (rd_cons (rd_S 2 rfl hw) (rd_cons (rd_S 3 rfl hw) (rd_cons (rd_S 4 rfl hw) (rd_cons (rd_S 5 rfl hw) (rd_cons (rd_S 6 rfl hw) (rd_cons (rd_S 7 rfl hw) rd_nil))))))) ?_
                  refine wl_nil ?_
                  refine e_one (fun w h => h.weak (.cons _ (.cons _ (List.Sublist.refl _))) (fun s hs => hs)) ?_
                  refine a_one (i := 20) rfl rfl rfl (tame_call rfl ent_32) (by kernel_rfl) rfl ?_
                  refine wl_gyes rfl rfl ?_
                  refine o_callq rfl ent_32 rfl (c_ref21_Same l1 A1 c1 s1 e1 l2 A2 c2 s2 e2 (by omega) (by have := light_le h3_24; omega) (by have := light_le h3_24; omega)) (fun w hw => (rd_cons (rd_S 2 rfl hw) (rd_cons (rd_S 3 rfl hw) (rd_cons (rd_S 4 rfl hw) (rd_cons (rd_S 5 rfl hw) (rd_cons (rd_S 6 rfl hw) (rd_cons (rd_S 7 rfl hw) rd_nil))))))) ?_
                  refine wl_nil ?_
                  refine e_one (fun w h => h.weak (.cons _ (.cons _ (List.Sublist.refl _))) (fun s hs => hs)) ?_
                  refine a_take (i := 21) rfl (wanted_yes rfl rfl) (y_eqlb Tryz.underlying4 rfl rfl) (fun w h => h.weak (.cons _ (.cons _ (List.Sublist.refl _))) (fun s hs => hs)) (fun w h => h) rfl (pk_seq pk_fn) (by kernel_rfl) rfl ?_
                  refine wa_at (t := 114) rfl rfl ?_
                  refine a_take (i := 22) rfl wanted_none (y_pick_t rfl rfl) (fun w h => h.weak (.cons _ (.cons _ (List.Sublist.refl _))) (fun s hs => hs)) (fun w h => h) rfl (pk_seq pk_fn) (by kernel_rfl) rfl ?_
                  refine a_take (i := 23) rfl wanted_none (y_assign rfl) (fun w h => h.weak (.cons _ (.cons _ (List.Sublist.refl _))) (fun s hs => hs)) (fun w h => h) rfl (pk_seq pk_fn) (by kernel_rfl) rfl ?_
                  refine a_done (by kernel_rfl) ?_
                  refine e_seq ?_
                  refine w_ret ?_
                  refine e_ret (ts := [8]) rfl rfl rfl (fun w hw => ?_)
                  exact ⟨(), rfl, hw.base, (hw.weak (List.nil_sublist _) (fun s hs => hs)).toNews⟩
              · skip
                refine wl_gyes rfl rfl ?_
                refine o_y (y_not rfl) rfl rfl ?_
                refine o_y (y_pick_f rfl rfl) rfl rfl ?_
                refine wl_nil ?_
                refine e_seq ?_
                refine w_cond_t rfl ?_
                refine w_seq ?_
                refine w_region ?_
                refine o_y (y_assign rfl) rfl rfl ?_
                refine wl_nil ?_
                refine e_seq ?_
                refine w_ret ?_
                refine e_seq_ret ?_
                refine e_ret (ts := [8]) rfl rfl rfl (fun w hw => ?_)
                exact ⟨(), rfl, hw.base, (hw.weak (List.nil_sublist _) (fun s hs => hs)).toNews⟩
            · skip
              refine wl_gyes rfl rfl ?_
              refine o_y (y_not rfl) rfl rfl ?_
              refine o_y (y_pick_f rfl rfl) rfl rfl ?_
              refine o_y (y_move rfl) rfl rfl ?_
              refine wl_gno rfl rfl rfl rfl ?_
              refine wl_gno rfl rfl rfl rfl ?_
              refine wl_gno rfl rfl rfl rfl ?_
              refine wl_gno rfl rfl rfl rfl ?_
              refine o_y (y_pick_t rfl rfl) rfl rfl ?_
              refine wl_nil ?_
              refine e_seq ?_
              refine w_cond_t rfl ?_
              refine w_seq ?_
              refine w_region ?_
              refine o_y (y_assign rfl) rfl rfl ?_
              refine wl_nil ?_
              refine e_seq ?_
              refine w_ret ?_
              refine e_seq_ret ?_
              refine e_ret (ts := [8]) rfl rfl rfl (fun w hw => ?_)
              exact ⟨(), rfl, hw.base, (hw.weak (List.nil_sublist _) (fun s hs => hs)).toNews⟩
          · skip
            refine wl_gyes rfl rfl ?_
            refine o_y (y_not rfl) rfl rfl ?_
            refine o_y (y_pick_f rfl rfl) rfl rfl ?_
            refine o_y (y_move rfl) rfl rfl ?_
            refine wl_gno rfl rfl rfl rfl ?_
            refine wl_gno rfl rfl rfl rfl ?_
            refine wl_gno rfl rfl rfl rfl ?_
            refine wl_gno rfl rfl rfl rfl ?_
            refine o_y (y_pick_t rfl rfl) rfl rfl ?_
            refine o_y (y_move rfl) rfl rfl ?_
            refine wl_gno rfl rfl rfl rfl ?_
            refine wl_gno rfl rfl rfl rfl ?_
            refine wl_gno rfl rfl rfl rfl ?_
            refine wl_gno rfl rfl rfl rfl ?_
            refine o_y (y_pick_t rfl rfl) rfl rfl ?_
            refine wl_nil ?_
            refine e_seq ?_
            refine w_cond_t rfl ?_
            refine w_seq ?_
            refine w_region ?_
            refine o_y (y_assign rfl) rfl rfl ?_
            refine wl_nil ?_
            refine e_seq ?_
            refine w_ret ?_
            refine e_seq_ret ?_
            refine e_ret (ts := [8]) rfl rfl rfl (fun w hw => ?_)
            exact ⟨(), rfl, hw.base, (hw.weak (List.nil_sublist _) (fun s hs => hs)).toNews⟩
        · skip
          refine wl_gyes rfl rfl ?_
          refine o_y (y_not rfl) rfl rfl ?_
          refine o_y (y_pick_f rfl rfl) rfl rfl ?_
          refine o_y (y_move rfl) rfl rfl ?_
          refine wl_gno rfl rfl rfl rfl ?_
          refine wl_gno rfl rfl rfl rfl ?_
          refine wl_gno rfl rfl rfl rfl ?_
          refine wl_gno rfl rfl rfl rfl ?_
          refine o_y (y_pick_t rfl rfl) rfl rfl ?_
          refine o_y (y_move rfl) rfl rfl ?_
          refine wl_gno rfl rfl rfl rfl ?_
          refine wl_gno rfl rfl rfl rfl ?_
          refine wl_gno rfl rfl rfl rfl ?_
          refine wl_gno rfl rfl rfl rfl ?_
          refine o_y (y_pick_t rfl rfl) rfl rfl ?_
          refine o_y (y_move rfl) rfl rfl ?_
          refine wl_gno rfl rfl rfl rfl ?_
          refine wl_gno rfl rfl rfl rfl ?_
          refine wl_gno rfl rfl rfl rfl ?_
          refine wl_gno rfl rfl rfl rfl ?_
          refine o_y (y_pick_t rfl rfl) rfl rfl ?_
          refine wl_nil ?_
          refine e_seq ?_
          refine w_cond_t rfl ?_
          refine w_seq ?_
          refine w_region ?_
          refine o_y (y_assign rfl) rfl rfl ?_
          refine wl_nil ?_
          refine e_seq ?_
          refine w_ret ?_
          refine e_seq_ret ?_
          refine e_ret (ts := [8]) rfl rfl rfl (fun w hw => ?_)
          exact ⟨(), rfl, hw.base, (hw.weak (List.nil_sublist _) (fun s hs => hs)).toNews⟩
    · skip
      refine o_y (y_not rfl) rfl rfl ?_
      refine o_y (y_move rfl) rfl rfl ?_
      refine wl_gno rfl rfl rfl rfl ?_
      refine wl_gno rfl rfl rfl rfl ?_
      refine wl_gno rfl rfl rfl rfl ?_
      refine o_y (y_pick_t rfl rfl) rfl rfl ?_
      refine o_y (y_move rfl) rfl rfl ?_
      refine wl_gno rfl rfl rfl rfl ?_
      refine wl_gno rfl rfl rfl rfl ?_
      refine wl_gno rfl rfl rfl rfl ?_
      refine wl_gno rfl rfl rfl rfl ?_
      refine o_y (y_pick_t rfl rfl) rfl rfl ?_
      refine o_y (y_move rfl) rfl rfl ?_
      refine wl_gno rfl rfl rfl rfl ?_
      refine wl_gno rfl rfl rfl rfl ?_
      refine wl_gno rfl rfl rfl rfl ?_
      refine wl_gno rfl rfl rfl rfl ?_
      refine o_y (y_pick_t rfl rfl) rfl rfl ?_
      refine o_y (y_move rfl) rfl rfl ?_
      refine wl_gno rfl rfl rfl rfl ?_
      refine wl_gno rfl rfl rfl rfl ?_
      refine wl_gno rfl rfl rfl rfl ?_
      refine wl_gno rfl rfl rfl rfl ?_
      refine o_y (y_pick_t rfl rfl) rfl rfl ?_
      refine o_y (y_move rfl) rfl rfl ?_
      refine wl_gno rfl rfl rfl rfl ?_
      refine wl_gno rfl rfl rfl rfl ?_
      refine wl_gno rfl rfl rfl rfl ?_
      refine wl_gno rfl rfl rfl rfl ?_
      refine o_y (y_pick_t rfl rfl) rfl rfl ?_
      refine wl_nil ?_
      refine e_seq ?_
      refine w_cond_t rfl ?_
      refine w_seq ?_
      refine w_region ?_
      refine o_y (y_assign rfl) rfl rfl ?_
      refine wl_nil ?_
      refine e_seq ?_
      refine w_ret ?_
      refine e_seq_ret ?_
      refine e_ret (ts := [8]) rfl rfl rfl (fun w hw => ?_)
      exact ⟨(), rfl, hw.base, (hw.weak (List.nil_sublist _) (fun s hs => hs)).toNews⟩
  · skip
    refine w_seq ?_
    refine w_region ?_
    refine o_box rfl rfl rfl (fun b10 => ?_)
    refine o_box rfl rfl rfl (fun b11 => ?_)
    refine o_box rfl rfl rfl (fun b12 => ?_)
    refine o_y (y_assign rfl) rfl rfl ?_
    refine wl_nil ?_
    refine e_seq ?_
    refine w_seq ?_
    refine w_seq ?_
    refine w_region ?_
    refine o_callp rfl ent_27 c_lives21 rfl ?_
    refine wl_as (t := 16) (.bool true) rfl (congrArg Value.bool rfl) ?_
    refine o_y (y_not rfl) rfl rfl ?_
    refine wl_nil ?_
    refine e_seq ?_
    refine w_cond_f rfl ?_
    refine w_skip ?_
    refine e_seq ?_
    refine w_seq ?_
    refine w_seq ?_
    refine w_region ?_
    refine o_y (y_field fa_24_1 rfl) rfl rfl ?_
    refine o_y (y_loadr 2 ty_22 rfl rfl rfl) rfl rfl ?_
    refine o_callq rfl ent_7 rfl (c_LightEntries _ _ _ _ (by omega)) (fun w hw => (rd_cons (rd_S 0 rfl hw) rd_nil)) ?_
    refine wl_splitb (t := 20) rfl (fun h3_2 => ?_) (fun h3_2 => ?_)
    · skip
      have hle9 := lightEs_le h3_2
      have hok : TbOk l := fun x hx => ⟨hen x hx, hle9.1 x hx⟩
      have hl9 := hle9.2
      refine o_y (y_not rfl) rfl rfl ?_
      refine o_y (y_move rfl) rfl rfl ?_
      refine wl_gyes rfl rfl ?_
      refine o_y (y_move rfl) rfl rfl ?_
      refine wl_gyes rfl rfl ?_
      refine o_y (y_lens Tryz.underlying26 rfl) rfl rfl ?_
      refine wl_gyes rfl rfl ?_
      refine o_y (y_gtr rfl rfl) rfl rfl ?_
      refine wl_splitp (t := 25) rfl (fun h3_7 => ?_) (fun h3_7 => ?_)
      · skip
        refine o_y (y_pick_f rfl rfl) rfl rfl ?_
        refine o_y (y_move rfl) rfl rfl ?_
        refine wl_gno rfl rfl rfl rfl ?_
        refine wl_gno rfl rfl rfl rfl ?_
        refine wl_gno rfl rfl rfl rfl ?_
        refine wl_gno rfl rfl rfl rfl ?_
        refine o_y (y_pick_t rfl rfl) rfl rfl ?_
        refine o_y (y_move rfl) rfl rfl ?_
        refine wl_gno rfl rfl rfl rfl ?_
        refine wl_gno rfl rfl rfl rfl ?_
        refine wl_gno rfl rfl rfl rfl ?_
        refine wl_gno rfl rfl rfl rfl ?_
        refine o_y (y_pick_t rfl rfl) rfl rfl ?_
        refine o_y (y_move rfl) rfl rfl ?_
        refine wl_gno rfl rfl rfl rfl ?_
        refine wl_gno rfl rfl rfl rfl ?_
        refine wl_gno rfl rfl rfl rfl ?_
        refine wl_gno rfl rfl rfl rfl ?_
        refine o_y (y_pick_t rfl rfl) rfl rfl ?_
        refine o_y (y_move rfl) rfl rfl ?_
        refine wl_gno rfl rfl rfl rfl ?_
        refine wl_gno rfl rfl rfl rfl ?_
        refine wl_gno rfl rfl rfl rfl ?_
        refine wl_gno rfl rfl rfl rfl ?_
        refine o_y (y_pick_t rfl rfl) rfl rfl ?_
        refine wl_nil ?_
        refine e_seq ?_
        refine w_cond_t rfl ?_
        refine w_seq ?_
        refine w_region ?_
        refine o_y (y_assign rfl) rfl rfl ?_
        refine wl_nil ?_
        refine e_seq ?_
        refine w_ret ?_
        refine e_seq_ret ?_
        refine e_ret (ts := [8]) rfl rfl rfl (fun w hw => ?_)
        exact ⟨(), rfl, hw.base, (hw.weak (List.nil_sublist _) (fun s hs => hs)).toNews⟩
      · skip
        refine o_y (y_pick_f rfl rfl) rfl rfl ?_
        refine o_y (y_move rfl) rfl rfl ?_
        refine wl_gyes rfl rfl ?_
        refine o_y (y_field fa_64_0 rfl) rfl rfl ?_
        refine wl_gyes rfl rfl ?_
        refine o_y (y_loadr 1 ty_59 rfl rfl rfl) rfl rfl ?_
        refine wl_gyes rfl rfl ?_
        refine o_callq rfl ent_28 rfl (c_LightNames _ _ _ _ (by omega)) (fun w hw => (rd_cons (rd_S 2 rfl hw) rd_nil)) ?_
        refine wl_splitb (t := 30) rfl (fun h3_12 => ?_) (fun h3_12 => ?_)
        · skip
          have hn9 := lightN_le h3_12
          refine wl_gyes rfl rfl ?_
          refine o_y (y_not rfl) rfl rfl ?_
          refine o_y (y_pick_f rfl rfl) rfl rfl ?_
          refine o_y (y_move rfl) rfl rfl ?_
          refine wl_gyes rfl rfl ?_
          refine o_y (y_field fa_64_0 rfl) rfl rfl ?_
          refine wl_gyes rfl rfl ?_
          refine o_y (y_loadr 0 ty_59 rfl rfl rfl) rfl rfl ?_
          refine wl_gyes rfl rfl ?_
          refine o_callq rfl ent_28 rfl (c_LightNames _ _ _ _ (by omega)) (fun w hw => (rd_cons (rd_S 5 rfl hw) rd_nil)) ?_
          refine wl_splitb (t := 36) rfl (fun h3_18 => ?_) (fun h3_18 => ?_)
          · skip
            have hn8 := lightN_le h3_18
            refine wl_gyes rfl rfl ?_
            refine o_y (y_not rfl) rfl rfl ?_
            refine o_y (y_pick_f rfl rfl) rfl rfl ?_
            refine o_y (y_move rfl) rfl rfl ?_
            refine wl_gyes rfl rfl ?_
            refine o_y (y_field fa_64_2 rfl) rfl rfl ?_
            refine wl_gyes rfl rfl ?_
            refine o_y (y_loadrs 1 ty_34 rfl rfl rfl rfl) rfl rfl ?_
            refine wl_gyes rfl rfl ?_
            refine o_callp rfl ent_9 (c_LightEntry _ _ _ _ _) rfl ?_
            refine wl_splitb (t := 42) rfl (fun h3_24 => ?_) (fun h3_24 => ?_)
            · skip
              refine wl_gyes rfl rfl ?_
              refine o_y (y_not rfl) rfl rfl ?_
              refine o_y (y_pick_f rfl rfl) rfl rfl ?_
              refine o_y (y_move rfl) rfl rfl ?_
              refine wl_gyes rfl rfl ?_
              refine o_y (y_field fa_64_2 rfl) rfl rfl ?_
              refine wl_gyes rfl rfl ?_
              refine o_y (y_loadrs 0 ty_34 rfl rfl rfl rfl) rfl rfl ?_
              refine wl_gyes rfl rfl ?_
              refine o_callp rfl ent_9 (c_LightEntry _ _ _ _ _) rfl ?_
              refine wl_splitb (t := 48) rfl (fun h3_30 => ?_) (fun h3_30 => ?_)
              · skip
                refine wl_gyes rfl rfl ?_
                refine o_y (y_not rfl) rfl rfl ?_
                refine o_y (y_pick_f rfl rfl) rfl rfl ?_
                refine wl_nil ?_
                refine e_seq ?_
                refine w_cond_f rfl ?_
                refine w_skip ?_
                refine e_seq ?_
                refine w_seq ?_
                refine w_region ?_
                refine o_y (y_loadrs 2 ty_24 rfl rfl rfl rfl) rfl rfl ?_
                refine o_callq rfl ent_13 rfl (c_ref18_Newbad v l F d hok (by omega) hT _ _ _) (fun w hw => (rd_cons (rd_S 0 rfl hw) (rd_cons (rd_S 1 rfl hw) rd_nil))) ?_
                refine o_y (y_move rfl) rfl rfl ?_
                refine o_y (y_extract rfl rfl) rfl rfl ?_
                refine o_y (y_extract rfl rfl) rfl rfl ?_
                refine o_y (y_assign rfl) rfl rfl ?_
                refine o_y (y_assign rfl) rfl rfl ?_
                refine wl_nil ?_
                refine e_seq ?_
                refine w_seq ?_
                refine w_region ?_
                refine o_y (y_loadrs 2 ty_24 rfl rfl rfl rfl) rfl rfl ?_
                refine o_callq rfl ent_10 rfl (c_index_Newbad v l F d hok (by omega) hT _ _ _) (fun w hw => (rd_cons (rd_S 0 rfl hw) (rd_cons (rd_S 1 rfl hw) rd_nil))) ?_
                refine o_y (y_move rfl) rfl rfl ?_
                refine o_y (y_extract rfl rfl) rfl rfl ?_
                refine o_y (y_extract rfl rfl) rfl rfl ?_
                refine o_y (y_assign rfl) rfl rfl ?_
                refine o_y (y_assign rfl) rfl rfl ?_
                refine wl_nil ?_
                refine e_seq ?_
                refine w_seq ?_
                refine w_seq ?_
                refine w_region ?_
                refine o_y (y_move rfl) rfl rfl ?_
                refine o_y (y_neq rfl rfl) rfl rfl ?_
                refine wl_at (t := 62) rfl hT ?_
                refine wl_nil ?_
                refine e_seq ?_
                refine w_cond_t rfl ?_
                refine w_seq ?_
                refine w_region ?_
                refine o_y (y_move rfl) rfl rfl ?_
                refine o_y (y_move rfl) rfl rfl ?_
                refine o_y (y_eql rfl rfl) rfl rfl ?_
                refine wl_at (t := 65) rfl rfl ?_
                refine o_y (y_assign rfl) rfl rfl ?_
                refine wl_nil ?_
                refine e_seq ?_
                refine w_ret ?_
                refine e_seq_ret ?_
                refine e_ret (ts := [8]) rfl rfl rfl (fun w hw => ?_)
                exact ⟨(), rfl, hw.base, (hw.weak (List.nil_sublist _) (fun s hs => hs)).toNews⟩
              · skip
                refine wl_gyes rfl rfl ?_
                refine o_y (y_not rfl) rfl rfl ?_
                refine o_y (y_pick_f rfl rfl) rfl rfl ?_
                refine wl_nil ?_
                refine e_seq ?_
                refine w_cond_t rfl ?_
                refine w_seq ?_
                refine w_region ?_
                refine o_y (y_assign rfl) rfl rfl ?_
                refine wl_nil ?_
                refine e_seq ?_
                refine w_ret ?_
                refine e_seq_ret ?_
                refine e_ret (ts := [8]) rfl rfl rfl (fun w hw => ?_)
                exact ⟨(), rfl, hw.base, (hw.weak (List.nil_sublist _) (fun s hs => hs)).toNews⟩
            · skip
              refine wl_gyes rfl rfl ?_
              refine o_y (y_not rfl) rfl rfl ?_
              refine o_y (y_pick_f rfl rfl) rfl rfl ?_
              refine o_y (y_move rfl) rfl rfl ?_
              refine wl_gno rfl rfl rfl rfl ?_
              refine wl_gno rfl rfl rfl rfl ?_
              refine wl_gno rfl rfl rfl rfl ?_
              refine wl_gno rfl rfl rfl rfl ?_
              refine o_y (y_pick_t rfl rfl) rfl rfl ?_
              refine wl_nil ?_
              refine e_seq ?_
              refine w_cond_t rfl ?_
              refine w_seq ?_
              refine w_region ?_
              refine o_y (y_assign rfl) rfl rfl ?_
              refine wl_nil ?_
              refine e_seq ?_
              refine w_ret ?_
              refine e_seq_ret ?_
              refine e_ret (ts := [8]) rfl rfl rfl (fun w hw => ?_)
              exact ⟨(), rfl, hw.base, (hw.weak (List.nil_sublist _) (fun s hs => hs)).toNews⟩
          · skip
            refine wl_gyes rfl rfl ?_
            refine o_y (y_not rfl) rfl rfl ?_
            refine o_y (y_pick_f rfl rfl) rfl rfl ?_
            refine o_y (y_move rfl) rfl rfl ?_
            refine wl_gno rfl rfl rfl rfl ?_
            refine wl_gno rfl rfl rfl rfl ?_
            refine wl_gno rfl rfl rfl rfl ?_
            refine wl_gno rfl rfl rfl rfl ?_
            refine o_y (y_pick_t rfl rfl) rfl rfl ?_
            refine o_y (y_move rfl) rfl rfl ?_
            refine wl_gno rfl rfl rfl rfl ?_
            refine wl_gno rfl rfl rfl rfl ?_
            refine wl_gno rfl rfl rfl rfl ?_
            refine wl_gno rfl rfl rfl rfl ?_
            refine o_y (y_pick_t rfl rfl) rfl rfl ?_
            refine wl_nil ?_
            refine e_seq ?_
            refine w_cond_t rfl ?_
            refine w_seq ?_
            refine w_region ?_
            refine o_y (y_assign rfl) rfl rfl ?_
            refine wl_nil ?_
            refine e_seq ?_
            refine w_ret ?_
            refine e_seq_ret ?_
            refine e_ret (ts := [8]) rfl rfl rfl (fun w hw => ?_)
            exact ⟨(), rfl, hw.base, (hw.weak (List.nil_sublist _) (fun s hs => hs)).toNews⟩
        · skip
          refine wl_gyes rfl rfl ?_
          refine o_y (y_not rfl) rfl rfl ?_
          refine o_y (y_pick_f rfl rfl) rfl rfl ?_
          refine o_y (y_move rfl) rfl rfl ?_
          refine wl_gno rfl rfl rfl rfl ?_
          refine wl_gno rfl rfl rfl rfl ?_
          refine wl_gno rfl rfl rfl rfl ?_
          refine wl_gno rfl rfl rfl rfl ?_
          refine o_y (y_pick_t rfl rfl) rfl rfl ?_
          refine o_y (y_move rfl) rfl rfl ?_
          refine wl_gno rfl rfl rfl rfl ?_
          refine wl_gno rfl rfl rfl rfl ?_
          refine wl_gno rfl rfl rfl rfl ?_
          refine wl_gno rfl rfl rfl rfl ?_
          refine o_y (y_pick_t rfl rfl) rfl rfl ?_
          refine o_y (y_move rfl) rfl rfl ?_
          refine wl_gno rfl rfl rfl rfl ?_
          refine wl_gno rfl rfl rfl rfl ?_
          refine wl_gno rfl rfl rfl rfl ?_
          refine wl_gno rfl rfl rfl rfl ?_
          refine o_y (y_pick_t rfl rfl) rfl rfl ?_
          refine wl_nil ?_
          refine e_seq ?_
          refine w_cond_t rfl ?_
          refine w_seq ?_
          refine w_region ?_
          refine o_y (y_assign rfl) rfl rfl ?_
          refine wl_nil ?_
          refine e_seq ?_
          refine w_ret ?_
          refine e_seq_ret ?_
          refine e_ret (ts := [8]) rfl rfl rfl (fun w hw => ?_)
          exact ⟨(), rfl, hw.base, (hw.weak (List.nil_sublist _) (fun s hs => hs)).toNews⟩
    · skip
      refine o_y (y_not rfl) rfl rfl ?_
      refine o_y (y_move rfl) rfl rfl ?_
      refine wl_gno rfl rfl rfl rfl ?_
      refine wl_gno rfl rfl rfl rfl ?_
      refine wl_gno rfl rfl rfl rfl ?_
      refine o_y (y_pick_t rfl rfl) rfl rfl ?_
      refine o_y (y_move rfl) rfl rfl ?_
      refine wl_gno rfl rfl rfl rfl ?_
      refine wl_gno rfl rfl rfl rfl ?_
      refine wl_gno rfl rfl rfl rfl ?_
      refine wl_gno rfl rfl rfl rfl ?_
      refine o_y (y_pick_t rfl rfl) rfl rfl ?_
      refine o_y (y_move rfl) rfl rfl ?_
      refine wl_gno rfl rfl rfl rfl ?_
      refine wl_gno rfl rfl rfl rfl ?_
      refine wl_gno rfl rfl rfl rfl ?_
      refine wl_gno rfl rfl rfl rfl ?_
      refine o_y (y_pick_t rfl rfl) rfl rfl ?_
      refine o_y (y_move rfl) rfl rfl ?_
      refine wl_gno rfl rfl rfl rfl ?_
      refine wl_gno rfl rfl rfl rfl ?_
      refine wl_gno rfl rfl rfl rfl ?_
      refine wl_gno rfl rfl rfl rfl ?_
      refine o_y (y_pick_t rfl rfl) rfl rfl ?_
      refine o_y (y_move rfl) rfl rfl ?_
      refine wl_gno rfl rfl rfl rfl ?_
      refine wl_gno rfl rfl rfl rfl ?_
      refine wl_gno rfl rfl rfl rfl ?_
      refine wl_gno rfl rfl rfl rfl ?_
      refine o_y (y_pick_t rfl rfl) rfl rfl ?_
      refine wl_nil ?_
      refine e_seq ?_
      refine w_cond_t rfl ?_
      refine w_seq ?_
      refine w_region ?_
      refine o_y (y_assign rfl) rfl rfl ?_
      refine wl_nil ?_
      refine e_seq ?_
      refine w_ret ?_
      refine e_seq_ret ?_
      refine e_ret (ts := [8]) rfl rfl rfl (fun w hw => ?_)
      exact ⟨(), rfl, hw.base, (hw.weak (List.nil_sublist _) (fun s hs => hs)).toNews⟩
end Go.Proofs.YtckfjfnkombelaaGreat
