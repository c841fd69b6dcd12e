/- an index asked; the reference of indexes; the first candidate -/
import Derived.Test.YtckfjfnkombelaaIaQN
import Derived.Test.YtckfjfnkombelaaScQN
namespace Go.Proofs.Ytckfjfnkombelaa
open Go.RowKit Go.Shelf
set_option linter.unusedVariables false
set_option linter.unusedSimpArgs false

theorem bu_50 : Try.prog.built 50 [] = some [.string ⟨#[]⟩, .int .i64 0, .string ⟨#[]⟩, .slice none 0 0, .string ⟨#[]⟩, .slice none 0 0, .int .u32 0].toArray := by kernel_rfl
theorem ent_68 : Enters Try.prog 68 := enters_of Try.func68 (by kernel_rfl) rfl
theorem ent_73 : Enters Try.prog 73 := enters_of Try.func73 (by kernel_rfl) rfl
theorem ent_81 : Enters Try.prog 81 := enters_of Try.func81 (by kernel_rfl) rfl
theorem ty_88 : TyI Try.prog 88 true 4 40 (.agg #[.string ⟨#[]⟩, .bool false, .int .u64 0, .int .u64 0]) := TyI.mk' (by kernel_rfl) (fun _ => by kernel_rfl)

/-- What an index finds. -/
def findI (m : List (Str × Le)) (n : Str) : Option Le := if nameCk n ≠ 0 then none else (lkp m (foldN n)).or ((pars (foldN n)).findSome? fun p => lkp m ([1, 42] ++ p))
theorem findI_bad {m : List (Str × Le)} {n : Str} (h : nameCk n ≠ 0) : findI m n = none := if_pos h
theorem findI_own {m : List (Str × Le)} {n : Str} (h : nameCk n = 0) (h2 : (lkp m (foldN n)).isSome = true) : findI m n = lkp m (foldN n) := by
  rw [findI, if_neg (fun q => q h)]
  cases h3 : lkp m (foldN n) with
  | none => rw [h3] at h2; cases h2
  | some e => rfl
theorem findI_par {m : List (Str × Le)} {n : Str} (h : nameCk n = 0) (h2 : (lkp m (foldN n)).isSome = false) : findI m n = (pars (foldN n)).findSome? fun p => lkp m ([1, 42] ++ p) := by
  rw [findI, if_neg (fun q => q h)]
  cases h3 : lkp m (foldN n) with
  | none => rfl
  | some e => rw [h3] at h2; cases h2
theorem none_of {α : Type} {o : Option α} (h : o.isSome = false) : o = none := by cases o with
  | none => rfl
  | some q => cases h

set_option maxRecDepth 100000 in
set_option maxHeartbeats 1000000 in
theorem c_Find (x : Ixd) (n : Str) : RC Try.prog 32 #[.pointer (some ⟨x.b, 0, none⟩), .string (ba n)] [Ch.row x.b (ixC x) 119, Ch.mp x.rh encN encE x.hm] (α := Unit) (fun _ => .tuple #[.agg (elC ((findI x.hm n).getD le0)).toArray, .bool (findI x.hm n).isSome]) (fun _ => []) := by
  refine rc_of_W (args := [.pointer (some ⟨x.b, 0, none⟩), .string (ba n)]) 65 Try.func32 rfl rfl rfl (fun w0 => ?_)
  refine w_seq ?_
  refine w_region ?_
  refine o_alloc ty_50 rfl rfl (fun b1 => ?_)
  refine o_y (y_assign rfl) rfl rfl ?_
  refine wl_nil ?_
  refine e_seq ?_
  refine w_seq ?_
  refine w_seq ?_
  refine w_region ?_
  refine o_y (y_move rfl) rfl rfl ?_
  refine o_y (y_eqp Try.underlying43 rfl rfl) rfl rfl ?_
  refine wl_as (t := 15) (.bool false) rfl (congrArg Value.bool rfl) ?_
  refine o_y (y_move rfl) rfl rfl ?_
  refine wl_gyes rfl rfl ?_
  refine o_y (y_move rfl) rfl rfl ?_
  refine wl_gyes rfl rfl ?_
  refine o_callp rfl ent_57 (c_name_Check _) rfl ?_
  refine wl_gyes rfl rfl ?_
  refine o_y (y_neq rfl rfl) rfl rfl ?_
  refine wl_splitp (t := 19) rfl (fun h1_5 => ?_) (fun h1_5 => ?_)
  · skip
    refine o_y (y_pick_f rfl rfl) rfl rfl ?_
    refine wl_nil ?_
    refine e_seq ?_
    refine w_cond_t rfl ?_
    refine w_seq ?_
    refine w_region ?_
    refine o_y (y_build rfl (bu_50)) rfl rfl ?_
    refine o_store ty_50 rfl rfl rfl .z rfl rfl rfl rfl ?_
    refine o_y (y_assign rfl) rfl rfl ?_
    refine wl_nil ?_
    refine e_seq ?_
    refine w_ret ?_
    refine e_seq_ret ?_
    refine e_rsr (rs := [.cell 4 50, .tmp 5]) rfl (rs_cells 0 ty_50 rfl rfl rfl rfl (rs_tmp rfl rs_nil)) rfl (fun w hw => ?_)
    first
      | (have hq : findI x.hm n = none := findI_bad (by omega)
         exact ⟨(), by rw [hq]; rfl, hw.base, (hw.weak (List.nil_sublist _) (fun s hs => hs)).toNews⟩)
      | (have hq : findI x.hm n = lkp x.hm (foldN n) := findI_own hn0 h4_0
         exact ⟨(), by rw [hq, h4_0]; rfl, hw.base, (hw.weak (List.nil_sublist _) (fun s hs => hs)).toNews⟩)
      | (have hq : findI x.hm n = lkp x.hm ([1, 42] ++ rst c) := by
           rw [findI_par hn0 hno, hI.2, hp, List.findSome?_cons]
           cases h9 : lkp x.hm ([1, 42] ++ rst c) with
           | none => rw [h9] at h11_8; cases h11_8
           | some q => rfl
         exact ⟨(), by rw [hq, h11_8]; rfl, hw.base, (hw.weak (List.nil_sublist _) (fun s hs => hs)).toNews⟩)
      | (have hq : findI x.hm n = none := by
           rw [findI_par hn0 hno, hI.2, pars_eq, if_neg (by rw [← parB_cut hI.1, h7_0]; decide)]; rfl
         exact ⟨(), by rw [hq]; rfl, hw.base, (hw.weak (List.nil_sublist _) (fun s hs => hs)).toNews⟩)
      | (trace_state; fail)
  · skip
    have hn0 : nameCk n = 0 := by omega
    have hnl := (nameCk_zero.1 hn0).1
    have hfl := foldN_len hn0
    refine o_y (y_pick_f rfl rfl) rfl rfl ?_
    refine wl_nil ?_
    refine e_seq ?_
    refine w_cond_f rfl ?_
    refine w_skip ?_
    refine e_seq ?_
    refine w_seq ?_
    refine w_joinX (σ := Nat) (fun q => [(6, .pointer (some ⟨q, 0, none⟩)), (7, .bool (lkp x.hm (foldN n)).isSome)]) (fun q => [Ch.row q (elC ((lkp x.hm (foldN n)).getD le0)) 50]) (fun q => ?_) (fun J3 => ?_)
    · skip
      refine w_seq ?_
      refine w_region ?_
      refine o_y (y_move rfl) rfl rfl ?_
      refine wl_splitb (t := 32) rfl (fun h4_0 => ?_) (fun h4_0 => ?_)
      · skip
        refine wl_nil ?_
        refine e_seq ?_
        refine w_cond_t rfl ?_
        refine w_seq ?_
        refine w_region ?_
        refine o_y (y_loadrs 0 ty_50 rfl rfl rfl rfl) rfl rfl ?_
        refine o_store ty_50 rfl rfl rfl (.s (.z)) rfl rfl rfl rfl ?_
        refine o_y (y_assign rfl) rfl rfl ?_
        refine wl_nil ?_
        refine e_seq ?_
        refine w_ret ?_
        refine e_seq_ret ?_
        refine e_rsr (rs := [.cell 4 50, .tmp 5]) rfl (rs_cells 1 ty_50 rfl rfl rfl rfl (rs_tmp rfl rs_nil)) rfl (fun w hw => ?_)
        first
          | (have hq : findI x.hm n = none := findI_bad (by omega)
             exact ⟨(), by rw [hq]; rfl, hw.base, (hw.weak (List.nil_sublist _) (fun s hs => hs)).toNews⟩)
          | (have hq : findI x.hm n = lkp x.hm (foldN n) := findI_own hn0 h4_0
             exact ⟨(), by rw [hq, h4_0]; rfl, hw.base, (hw.weak (List.nil_sublist _) (fun s hs => hs)).toNews⟩)
          | (have hq : findI x.hm n = lkp x.hm ([1, 42] ++ rst c) := by
               rw [findI_par hn0 hno, hI.2, hp, List.findSome?_cons]
               cases h9 : lkp x.hm ([1, 42] ++ rst c) with
               | none => rw [h9] at h11_8; cases h11_8
               | some q => rfl
             exact ⟨(), by rw [hq, h11_8]; rfl, hw.base, (hw.weak (List.nil_sublist _) (fun s hs => hs)).toNews⟩)
          | (have hq : findI x.hm n = none := by
               rw [findI_par hn0 hno, hI.2, pars_eq, if_neg (by rw [← parB_cut hI.1, h7_0]; decide)]; rfl
             exact ⟨(), by rw [hq]; rfl, hw.base, (hw.weak (List.nil_sublist _) (fun s hs => hs)).toNews⟩)
          | (trace_state; fail)
      · skip
        refine wl_nil ?_
        refine e_seq ?_
        refine w_cond_f rfl ?_
        refine w_skip ?_
        refine e_seq ?_
        refine w_seq ?_
        refine w_seq ?_
        have hno : (lkp x.hm (foldN n)).isSome = false := h4_0
        refine w_region ?_
        refine o_y (y_move rfl) rfl rfl ?_
        refine o_callp rfl ent_69 (p_name_Fold _ (by omega)) rfl ?_
        refine o_callp rfl ent_73 (c_name_Parent _) rfl ?_
        refine o_y (y_move rfl) rfl rfl ?_
        refine o_y (y_extract rfl rfl) rfl rfl ?_
        refine o_y (y_extract rfl rfl) rfl rfl ?_
        refine o_y (y_assign rfl) rfl rfl ?_
        refine o_y (y_assign rfl) rfl rfl ?_
        refine wl_nil ?_
        refine e_seq ?_
        refine w_block ?_
        refine w_loop0 (σ := Str) [5, 8, 9, 10, 11, 12, 13, 40, 41, 42, 43, 44, 45, 46, 47, 48, 49, 50, 51, 52, 53, 54, 55, 56, 57, 58, 59, 60, 61, 62, 63] (fun c => nameCk c = 0 ∧ (pars (foldN n)).findSome? (fun p => lkp x.hm ([1, 42] ++ p)) = (pars c).findSome? (fun p => lkp x.hm ([1, 42] ++ p))) (fun c => c.length) (fun c => [(8, .string (ba (parN c))), (9, .bool (parB c))]) ((foldN n)) ?_ ⟨rfl, rfl, trivial⟩ (fun c hI => ?_)
        · exact ⟨nameCk_fold hn0, rfl⟩
        refine w_seq ?_
        refine w_seq ?_
        refine w_region ?_
        refine o_y (y_move rfl) rfl rfl ?_
        refine wl_splitb (t := 40) rfl (fun h7_0 => ?_) (fun h7_0 => ?_)
        · skip
          refine wl_nil ?_
          refine e_seq ?_
          refine w_cond_t rfl ?_
          refine w_skip ?_
          refine e_seq ?_
          refine w_seq ?_
          refine w_block ?_
          refine w_seq ?_
          have hc : cutOk c = true := by rw [← parB_cut hI.1]; exact h7_0
          have hp : pars c = rst c :: pars (rst c) := by rw [pars_eq, if_pos hc]
          have hrn := nameCk_rst hI.1 hc
          have hr2 := rst_len2 hc
          have hcl := (nameCk_zero.1 hI.1).1
          have hjoin : joinE [1, 42] (rst c) = 0 := joinE_zero.2 ⟨by decide, hrn, by simp; omega⟩
          have hpc : parN c = rst c := parN_yes h7_0
          refine w_region ?_
          refine o_y (y_move rfl) rfl rfl ?_
          refine wl_as (t := 47) (.string (ba (rst c))) rfl (by rw [hpc]) ?_
          refine o_callp rfl ent_74 (p_name_Join [1, 42] _ (by decide) (by omega)) rfl ?_
          refine o_y (y_move rfl) rfl rfl ?_
          refine o_y (y_extract rfl rfl) rfl rfl ?_
          refine o_y (y_extract rfl rfl) rfl rfl ?_
          refine o_y (y_assign rfl) rfl rfl ?_
          refine o_y (y_assign rfl) rfl rfl ?_
          refine wl_nil ?_
          refine e_seq ?_
          refine w_seq ?_
          refine w_seq ?_
          refine w_region ?_
          refine o_y (y_move rfl) rfl rfl ?_
          refine o_y (y_neq rfl rfl) rfl rfl ?_
          refine wl_af (t := 52) rfl (fun h => h hjoin) ?_
          refine wl_nil ?_
          refine e_seq ?_
          refine w_cond_f rfl ?_
          refine w_skip ?_
          refine e_seq ?_
          refine w_seq ?_
          refine w_region ?_
          refine o_y (y_move rfl) rfl rfl ?_
          refine o_y (y_nilCheck rfl) rfl rfl ?_
          refine o_y (y_field fa_119_1 rfl) rfl rfl ?_
          refine o_y (y_loadSo 0 ty_113 rfl rfl rfl) rfl rfl ?_
          refine o_y (y_move rfl) rfl rfl ?_
          refine wl_as (t := 58) (.string (ba ([1, 42] ++ rst c))) rfl (by rw [join_good hjoin]) ?_
          refine o_callq rfl ent_68 rfl (c_ask_h _ _ _) (fun w hw => (rd_cons (rd_S 1 rfl hw) rd_nil)) ?_
          refine o_y (y_move rfl) rfl rfl ?_
          refine o_y (y_extract rfl rfl) rfl rfl ?_
          refine o_y (y_extract rfl rfl) rfl rfl ?_
          refine wl_splitb (t := 61) rfl (fun h11_8 => ?_) (fun h11_8 => ?_)
          · skip
            refine o_alloc ty_50 rfl rfl (fun b2 => ?_)
            refine o_store ty_50 rfl rfl rfl .z rfl rfl rfl rfl ?_
            refine o_y (y_assign rfl) rfl rfl ?_
            refine wl_nil ?_
            refine e_seq ?_
            refine w_seq ?_
            refine w_region ?_
            refine o_y (y_move rfl) rfl rfl ?_
            refine wl_nil ?_
            refine e_seq ?_
            refine w_cond_t rfl ?_
            refine w_seq ?_
            refine w_region ?_
            refine o_y (y_loadrs 0 ty_50 rfl rfl rfl rfl) rfl rfl ?_
            refine o_store ty_50 rfl rfl rfl (.s (.s (.z))) rfl rfl rfl rfl ?_
            refine o_y (y_assign rfl) rfl rfl ?_
            refine wl_nil ?_
            refine e_seq ?_
            refine w_ret ?_
            refine e_blk_ret ?_
            refine e_seq_ret ?_
            refine e_loop_ret ?_
            refine e_blk_ret ?_
            refine e_seq_ret ?_
            refine e_rsr (rs := [.cell 4 50, .tmp 5]) rfl (rs_cells 2 ty_50 rfl rfl rfl rfl (rs_tmp rfl rs_nil)) rfl (fun w hw => ?_)
            first
              | (have hq : findI x.hm n = none := findI_bad (by omega)
                 exact ⟨(), by rw [hq]; rfl, hw.base, (hw.weak (List.nil_sublist _) (fun s hs => hs)).toNews⟩)
              | (have hq : findI x.hm n = lkp x.hm (foldN n) := findI_own hn0 h4_0
                 exact ⟨(), by rw [hq, h4_0]; rfl, hw.base, (hw.weak (List.nil_sublist _) (fun s hs => hs)).toNews⟩)
              | (have hq : findI x.hm n = lkp x.hm ([1, 42] ++ rst c) := by
                   rw [findI_par hn0 hno, hI.2, hp, List.findSome?_cons]
                   cases h9 : lkp x.hm ([1, 42] ++ rst c) with
                   | none => rw [h9] at h11_8; cases h11_8
                   | some q => rfl
                 exact ⟨(), by rw [hq, h11_8]; rfl, hw.base, (hw.weak (List.nil_sublist _) (fun s hs => hs)).toNews⟩)
              | (have hq : findI x.hm n = none := by
                   rw [findI_par hn0 hno, hI.2, pars_eq, if_neg (by rw [← parB_cut hI.1, h7_0]; decide)]; rfl
                 exact ⟨(), by rw [hq]; rfl, hw.base, (hw.weak (List.nil_sublist _) (fun s hs => hs)).toNews⟩)
              | (trace_state; fail)
          · skip
            refine o_alloc ty_50 rfl rfl (fun b3 => ?_)
            refine o_store ty_50 rfl rfl rfl .z rfl rfl rfl rfl ?_
            refine o_y (y_assign rfl) rfl rfl ?_
            refine wl_nil ?_
            refine e_seq ?_
            refine w_seq ?_
            refine w_region ?_
            refine o_y (y_move rfl) rfl rfl ?_
            refine wl_nil ?_
            refine e_seq ?_
            refine w_cond_f rfl ?_
            refine w_skip ?_
            refine e_blk ?_
            refine e_seq ?_
            refine w_region ?_
            refine o_y (y_move rfl) rfl rfl ?_
            refine wl_as (t := 42) (.string (ba (rst c))) rfl (by rw [hpc]) ?_
            refine o_callp rfl ent_73 (c_name_Parent _) rfl ?_
            refine o_y (y_move rfl) rfl rfl ?_
            refine o_y (y_extract rfl rfl) rfl rfl ?_
            refine o_y (y_extract rfl rfl) rfl rfl ?_
            refine o_y (y_assign rfl) rfl rfl ?_
            refine o_y (y_assign rfl) rfl rfl ?_
            refine wl_nil ?_
            refine e_back (rst c) ?_ ?_ ⟨rfl, rfl, trivial⟩ (by repeat (first | exact trivial | refine ⟨rfl, ?_⟩)) (fun w h => h.weak (.cons _ (List.Sublist.refl _)) (fun s hs => hs))
            · exact ⟨hrn, by rw [hI.2, hp, List.findSome?_cons, none_of h11_8]⟩
            · exact rst_lt hc
        · skip
          refine wl_nil ?_
          refine e_seq ?_
          refine w_cond_f rfl ?_
          refine w_exit ?_
          refine e_seq_exit ?_
          refine e_loop_exit ?_
          refine e_blk_hit ?_
          refine e_seq ?_
          refine w_seq ?_
          refine w_region ?_
          refine o_y (y_build rfl (bu_50)) rfl rfl ?_
          refine o_store ty_50 rfl rfl rfl (.s (.z)) rfl rfl rfl rfl ?_
          refine o_y (y_assign rfl) rfl rfl ?_
          refine wl_nil ?_
          refine e_seq ?_
          refine w_ret ?_
          refine e_rsr (rs := [.cell 4 50, .tmp 5]) rfl (rs_cells 1 ty_50 rfl rfl rfl rfl (rs_tmp rfl rs_nil)) rfl (fun w hw => ?_)
          first
            | (have hq : findI x.hm n = none := findI_bad (by omega)
               exact ⟨(), by rw [hq]; rfl, hw.base, (hw.weak (List.nil_sublist _) (fun s hs => hs)).toNews⟩)
            | (have hq : findI x.hm n = lkp x.hm (foldN n) := findI_own hn0 h4_0
               exact ⟨(), by rw [hq, h4_0]; rfl, hw.base, (hw.weak (List.nil_sublist _) (fun s hs => hs)).toNews⟩)
            | (have hq : findI x.hm n = lkp x.hm ([1, 42] ++ rst c) := by
                 rw [findI_par hn0 hno, hI.2, hp, List.findSome?_cons]
                 cases h9 : lkp x.hm ([1, 42] ++ rst c) with
                 | none => rw [h9] at h11_8; cases h11_8
                 | some q => rfl
               exact ⟨(), by rw [hq, h11_8]; rfl, hw.base, (hw.weak (List.nil_sublist _) (fun s hs => hs)).toNews⟩)
            | (have hq : findI x.hm n = none := by
                 rw [findI_par hn0 hno, hI.2, pars_eq, if_neg (by rw [← parB_cut hI.1, h7_0]; decide)]; rfl
               exact ⟨(), by rw [hq]; rfl, hw.base, (hw.weak (List.nil_sublist _) (fun s hs => hs)).toNews⟩)
            | (trace_state; fail)
    · skip
      refine w_seq ?_
      refine w_drawU 11 rfl mixed ?_
      refine u_take (i := 0) rfl wanted_none (y_move rfl) (fun w h => h) (fun w h => h) rfl (pk_seq (pk_seq pk_fn)) (by kernel_rfl) rfl ?_
      refine u_take (i := 1) rfl wanted_none (y_nilCheck rfl) (fun w h => h) (fun w h => h) rfl (pk_seq (pk_seq pk_fn)) (by kernel_rfl) rfl ?_
      refine u_take (i := 2) rfl wanted_none (y_field fa_119_1 rfl) (fun w h => h) (fun w h => h) rfl (pk_seq (pk_seq pk_fn)) (by kernel_rfl) rfl ?_
      refine u_take (i := 3) rfl wanted_none (y_loadSo 0 ty_113 rfl rfl rfl) (fun w h => h) (fun w h => h) rfl (pk_seq (pk_seq pk_fn)) (by kernel_rfl) rfl ?_
      refine u_take (i := 4) rfl wanted_none (y_move rfl) (fun w h => h) (fun w h => h) rfl (pk_seq (pk_seq pk_fn)) (by kernel_rfl) rfl ?_
      refine u_many (js := [5, 10]) (by kernel_rfl) rfl ?_
      refine wru_cons (i := 5) rfl rfl rfl (tame_call rfl ent_69) rfl ?_ ?_
      · skip
        refine o_callp rfl ent_69 (p_name_Fold _ (by omega)) rfl ?_
        refine wl_nil ?_
        refine eu_one (fun w h => h) ?_
        refine u_many (js := [6, 10]) (by kernel_rfl) rfl ?_
        refine wru_cons (i := 6) rfl rfl rfl (tame_call rfl ent_68) rfl ?_ ?_
        · skip
          refine o_callq rfl ent_68 rfl (c_ask_h _ _ _) (fun w hw => (rd_cons (rd_S 1 rfl hw) rd_nil)) ?_
          refine wl_nil ?_
          refine eu_one (fun w h => h) ?_
          refine u_take (i := 7) rfl wanted_none (y_move rfl) (fun w h => h) (fun w h => h) rfl (pk_seq (pk_seq pk_fn)) (by kernel_rfl) rfl ?_
          refine u_take (i := 8) rfl wanted_none (y_extract rfl rfl) (fun w h => h) (fun w h => h) rfl (pk_seq (pk_seq pk_fn)) (by kernel_rfl) rfl ?_
          refine u_many (js := [9, 10]) (by kernel_rfl) rfl ?_
          refine wru_cons (i := 9) rfl rfl rfl (fun _ _ _ => tame_op (by kernel_rfl)) rfl ?_ ?_
          · skip
            refine o_y (y_extract rfl rfl) rfl rfl ?_
            refine wl_nil ?_
            refine eu_one (fun w h => h) ?_
            refine u_one (i := 10) rfl rfl rfl (fun _ _ _ => tame_op (by kernel_rfl)) (by kernel_rfl) rfl ?_
            refine o_alloc ty_50 rfl rfl (fun b4 => ?_)
            refine wl_nil ?_
            refine eu_one (fun w h => h.weak (.cons _ (List.Sublist.refl _)) (fun s hs => hs)) ?_
            refine u_one (i := 11) rfl rfl rfl (fun _ _ _ => tame_op (by kernel_rfl)) (by kernel_rfl) rfl ?_
            refine o_store ty_50 rfl rfl rfl .z rfl rfl rfl rfl ?_
            refine wl_nil ?_
            refine eu_tail rfl ?_
            refine u_one (i := 12) rfl rfl rfl (fun _ _ _ => tame_op (by kernel_rfl)) (by kernel_rfl) rfl ?_
            refine o_y (y_assign rfl) rfl rfl ?_
            refine wl_nil ?_
            refine eu_tail rfl ?_
            refine u_done (by kernel_rfl) ?_
            refine e_seq ?_
            refine w_heap (fun w h => h.weak (.cons_cons _ (List.Sublist.refl _)) (fun s hs => hs)) ?_
            exact J3 b4 _ (by repeat (first | exact trivial | refine ⟨rfl, ?_⟩))
          refine wru_cons (i := 10) rfl rfl rfl (fun _ _ _ => tame_op (by kernel_rfl)) rfl ?_ ?_
          · skip
            refine o_alloc ty_50 rfl rfl (fun b5 => ?_)
            refine wl_nil ?_
            refine eu_one (fun w h => h.weak (.cons _ (List.Sublist.refl _)) (fun s hs => hs)) ?_
            refine u_many (js := [9, 11]) (by kernel_rfl) rfl ?_
            refine wru_cons (i := 9) rfl rfl rfl (fun _ _ _ => tame_op (by kernel_rfl)) rfl ?_ ?_
            · skip
              refine o_y (y_extract rfl rfl) rfl rfl ?_
              refine wl_nil ?_
              refine eu_one (fun w h => h.weak (.cons _ (List.Sublist.refl _)) (fun s hs => hs)) ?_
              refine u_one (i := 11) rfl rfl rfl (fun _ _ _ => tame_op (by kernel_rfl)) (by kernel_rfl) rfl ?_
              refine o_store ty_50 rfl rfl rfl .z rfl rfl rfl rfl ?_
              refine wl_nil ?_
              refine eu_tail rfl ?_
              refine u_one (i := 12) rfl rfl rfl (fun _ _ _ => tame_op (by kernel_rfl)) (by kernel_rfl) rfl ?_
              refine o_y (y_assign rfl) rfl rfl ?_
              refine wl_nil ?_
              refine eu_tail rfl ?_
              refine u_done (by kernel_rfl) ?_
              refine e_seq ?_
              refine w_heap (fun w h => h.weak (.cons_cons _ (List.Sublist.refl _)) (fun s hs => hs)) ?_
              exact J3 b5 _ (by repeat (first | exact trivial | refine ⟨rfl, ?_⟩))
            refine wru_cons (i := 11) rfl rfl rfl (fun _ _ _ => tame_op (by kernel_rfl)) rfl ?_ ?_
            · skip
              refine o_store ty_50 rfl rfl rfl .z rfl rfl rfl rfl ?_
              refine wl_nil ?_
              refine eu_tail rfl ?_
              refine u_one (i := 9) rfl rfl rfl (fun _ _ _ => tame_op (by kernel_rfl)) (by kernel_rfl) rfl ?_
              refine o_y (y_extract rfl rfl) rfl rfl ?_
              refine wl_nil ?_
              refine eu_tail rfl ?_
              refine u_one (i := 12) rfl rfl rfl (fun _ _ _ => tame_op (by kernel_rfl)) (by kernel_rfl) rfl ?_
              refine o_y (y_assign rfl) rfl rfl ?_
              refine wl_nil ?_
              refine eu_tail rfl ?_
              refine u_done (by kernel_rfl) ?_
              refine e_seq ?_
              refine w_heap (fun w h => h.weak (.cons_cons _ (List.Sublist.refl _)) (fun s hs => hs)) ?_
              exact J3 b5 _ (by repeat (first | exact trivial | refine ⟨rfl, ?_⟩))
            exact wru_nil
          exact wru_nil
        refine wru_cons (i := 10) rfl rfl rfl (fun _ _ _ => tame_op (by kernel_rfl)) rfl ?_ ?_
        · skip
          refine o_alloc ty_50 rfl rfl (fun b6 => ?_)
          refine wl_nil ?_
          refine eu_one (fun w h => h.weak (.cons _ (List.Sublist.refl _)) (fun s hs => hs)) ?_
          refine u_one (i := 6) rfl rfl rfl (tame_call rfl ent_68) (by kernel_rfl) rfl ?_
          refine o_callq rfl ent_68 rfl (c_ask_h _ _ _) (fun w hw => (rd_cons (rd_S 1 rfl hw) rd_nil)) ?_
          refine wl_nil ?_
          refine eu_one (fun w h => h.weak (.cons _ (List.Sublist.refl _)) (fun s hs => hs)) ?_
          refine u_take (i := 7) rfl wanted_none (y_move rfl) (fun w h => h.weak (.cons _ (List.Sublist.refl _)) (fun s hs => hs)) (fun w h => h) rfl (pk_seq (pk_seq pk_fn)) (by kernel_rfl) rfl ?_
          refine u_take (i := 8) rfl wanted_none (y_extract rfl rfl) (fun w h => h.weak (.cons _ (List.Sublist.refl _)) (fun s hs => hs)) (fun w h => h) rfl (pk_seq (pk_seq pk_fn)) (by kernel_rfl) rfl ?_
          refine u_many (js := [9, 11]) (by kernel_rfl) rfl ?_
          refine wru_cons (i := 9) rfl rfl rfl (fun _ _ _ => tame_op (by kernel_rfl)) rfl ?_ ?_
          · skip
            refine o_y (y_extract rfl rfl) rfl rfl ?_
            refine wl_nil ?_
            refine eu_one (fun w h => h.weak (.cons _ (List.Sublist.refl _)) (fun s hs => hs)) ?_
            refine u_one (i := 11) rfl rfl rfl (fun _ _ _ => tame_op (by kernel_rfl)) (by kernel_rfl) rfl ?_
            refine o_store ty_50 rfl rfl rfl .z rfl rfl rfl rfl ?_
            refine wl_nil ?_
            refine eu_tail rfl ?_
            refine u_one (i := 12) rfl rfl rfl (fun _ _ _ => tame_op (by kernel_rfl)) (by kernel_rfl) rfl ?_
            refine o_y (y_assign rfl) rfl rfl ?_
            refine wl_nil ?_
            refine eu_tail rfl ?_
            refine u_done (by kernel_rfl) ?_
            refine e_seq ?_
            refine w_heap (fun w h => h.weak (.cons_cons _ (List.Sublist.refl _)) (fun s hs => hs)) ?_
            exact J3 b6 _ (by repeat (first | exact trivial | refine ⟨rfl, ?_⟩))
          refine wru_cons (i := 11) rfl rfl rfl (fun _ _ _ => tame_op (by kernel_rfl)) rfl ?_ ?_
          · skip
            refine o_store ty_50 rfl rfl rfl .z rfl rfl rfl rfl ?_
            refine wl_nil ?_
            refine eu_tail rfl ?_
            refine u_one (i := 9) rfl rfl rfl (fun _ _ _ => tame_op (by kernel_rfl)) (by kernel_rfl) rfl ?_
            refine o_y (y_extract rfl rfl) rfl rfl ?_
            refine wl_nil ?_
            refine eu_tail rfl ?_
            refine u_one (i := 12) rfl rfl rfl (fun _ _ _ => tame_op (by kernel_rfl)) (by kernel_rfl) rfl ?_
            refine o_y (y_assign rfl) rfl rfl ?_
            refine wl_nil ?_
            refine eu_tail rfl ?_
            refine u_done (by kernel_rfl) ?_
            refine e_seq ?_
            refine w_heap (fun w h => h.weak (.cons_cons _ (List.Sublist.refl _)) (fun s hs => hs)) ?_
            exact J3 b6 _ (by repeat (first | exact trivial | refine ⟨rfl, ?_⟩))
          exact wru_nil
        exact wru_nil
      refine wru_cons (i := 10) rfl rfl rfl (fun _ _ _ => tame_op (by kernel_rfl)) rfl ?_ ?_
      · skip
        refine o_alloc ty_50 rfl rfl (fun b7 => ?_)
        refine wl_nil ?_
        refine eu_one (fun w h => h.weak (.cons _ (List.Sublist.refl _)) (fun s hs => hs)) ?_
        refine u_one (i := 5) rfl rfl rfl (tame_call rfl ent_69) (by kernel_rfl) rfl ?_
        refine o_callp rfl ent_69 (p_name_Fold _ (by omega)) rfl ?_
        refine wl_nil ?_
        refine eu_one (fun w h => h.weak (.cons _ (List.Sublist.refl _)) (fun s hs => hs)) ?_
        refine u_one (i := 6) rfl rfl rfl (tame_call rfl ent_68) (by kernel_rfl) rfl ?_
        refine o_callq rfl ent_68 rfl (c_ask_h _ _ _) (fun w hw => (rd_cons (rd_S 1 rfl hw) rd_nil)) ?_
        refine wl_nil ?_
        refine eu_one (fun w h => h.weak (.cons _ (List.Sublist.refl _)) (fun s hs => hs)) ?_
        refine u_take (i := 7) rfl wanted_none (y_move rfl) (fun w h => h.weak (.cons _ (List.Sublist.refl _)) (fun s hs => hs)) (fun w h => h) rfl (pk_seq (pk_seq pk_fn)) (by kernel_rfl) rfl ?_
        refine u_take (i := 8) rfl wanted_none (y_extract rfl rfl) (fun w h => h.weak (.cons _ (List.Sublist.refl _)) (fun s hs => hs)) (fun w h => h) rfl (pk_seq (pk_seq pk_fn)) (by kernel_rfl) rfl ?_
        refine u_many (js := [9, 11]) (by kernel_rfl) rfl ?_
        refine wru_cons (i := 9) rfl rfl rfl (fun _ _ _ => tame_op (by kernel_rfl)) rfl ?_ ?_
        · skip
          refine o_y (y_extract rfl rfl) rfl rfl ?_
          refine wl_nil ?_
          refine eu_one (fun w h => h.weak (.cons _ (List.Sublist.refl _)) (fun s hs => hs)) ?_
          refine u_one (i := 11) rfl rfl rfl (fun _ _ _ => tame_op (by kernel_rfl)) (by kernel_rfl) rfl ?_
          refine o_store ty_50 rfl rfl rfl .z rfl rfl rfl rfl ?_
          refine wl_nil ?_
          refine eu_tail rfl ?_
          refine u_one (i := 12) rfl rfl rfl (fun _ _ _ => tame_op (by kernel_rfl)) (by kernel_rfl) rfl ?_
          refine o_y (y_assign rfl) rfl rfl ?_
          refine wl_nil ?_
          refine eu_tail rfl ?_
          refine u_done (by kernel_rfl) ?_
          refine e_seq ?_
          refine w_heap (fun w h => h.weak (.cons_cons _ (List.Sublist.refl _)) (fun s hs => hs)) ?_
          exact J3 b7 _ (by repeat (first | exact trivial | refine ⟨rfl, ?_⟩))
        refine wru_cons (i := 11) rfl rfl rfl (fun _ _ _ => tame_op (by kernel_rfl)) rfl ?_ ?_
        · skip
          refine o_store ty_50 rfl rfl rfl .z rfl rfl rfl rfl ?_
          refine wl_nil ?_
          refine eu_tail rfl ?_
          refine u_one (i := 9) rfl rfl rfl (fun _ _ _ => tame_op (by kernel_rfl)) (by kernel_rfl) rfl ?_
          refine o_y (y_extract rfl rfl) rfl rfl ?_
          refine wl_nil ?_
          refine eu_tail rfl ?_
          refine u_one (i := 12) rfl rfl rfl (fun _ _ _ => tame_op (by kernel_rfl)) (by kernel_rfl) rfl ?_
          refine o_y (y_assign rfl) rfl rfl ?_
          refine wl_nil ?_
          refine eu_tail rfl ?_
          refine u_done (by kernel_rfl) ?_
          refine e_seq ?_
          refine w_heap (fun w h => h.weak (.cons_cons _ (List.Sublist.refl _)) (fun s hs => hs)) ?_
          exact J3 b7 _ (by repeat (first | exact trivial | refine ⟨rfl, ?_⟩))
        exact wru_nil
      exact wru_nil

/-- What is held: a host, its address. -/
structure Hd where
  host : Str
  ad : Ad
def hdC (h : Hd) : List Value := [.string (ba h.host), .bool h.ad.six, .int .u64 h.ad.hi, .int .u64 h.ad.lo]
theorem enc_hd : Enc hdC 4 := ⟨fun _ => rfl, fun _ => rfl⟩
def hd0 : Hd := ⟨[], ad0⟩

def bestI : Option Nat → Int
  | none => -1
  | some j => j
def hst (l : List Le) (i : Nat) : Str := (l.getD i le0).e.host
theorem at_all {l : List Le} {p : Str → Prop} (h : ∀ q, q < l.length → p (hst l q)) : ∀ x ∈ l, p x.e.host := fun x hx => by
  obtain ⟨i, hi, rfl⟩ := List.mem_iff_getElem.1 hx
  have := h i hi
  rwa [hst, List.getD_eq_getElem?_getD, List.getElem?_eq_getElem hi] at this
end Go.Proofs.Ytckfjfnkombelaa
