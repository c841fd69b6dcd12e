/- an index asked; the reference of indexes; the first candidate -/
import Derived.Test.YtckfjfnkombelaaGreatIaQC
import Derived.Test.YtckfjfnkombelaaGreatScQC
namespace Go.Proofs.YtckfjfnkombelaaGreat
open Go.RowKit Go.Shelf
set_option linter.unusedVariables false
set_option linter.unusedSimpArgs false

theorem bu_116_0_1 (x0 : Int) (x1 : Option Addr) (x2 : Nat) (x3 : Nat) (x4 : Option Addr) (x5 : Nat) (x6 : Nat) : Tryz.prog.built 116 [(0, .agg [.int .i64 x0, .slice x1 x2 x3].toArray), (1, .slice x4 x5 x6)] = some [.int .i64 x0, .slice x1 x2 x3, .slice x4 x5 x6].toArray := by kernel_rfl
theorem bu_34 : Tryz.prog.built 34 [] = some [.string ⟨#[]⟩, .int .i64 0, .string ⟨#[]⟩, .slice none 0 0, .string ⟨#[]⟩, .slice none 0 0, .int .u32 0].toArray := by kernel_rfl
theorem ent_54 : Enters Tryz.prog 54 := enters_of Tryz.func54 (by kernel_rfl) rfl
theorem ent_61 : Enters Tryz.prog 61 := enters_of Tryz.func61 (by kernel_rfl) rfl
theorem ent_64 : Enters Tryz.prog 64 := enters_of Tryz.func64 (by kernel_rfl) rfl
theorem ent_65 : Enters Tryz.prog 65 := enters_of Tryz.func65 (by kernel_rfl) rfl
theorem ent_67 : Enters Tryz.prog 67 := enters_of Tryz.func67 (by kernel_rfl) rfl
theorem fa_116_0 : FA Tryz.prog 116 0 0 := fun b o w => by kernel_rfl
theorem ty_46 : TyI Tryz.prog 46 true 4 40 (.agg #[.string ⟨#[]⟩, .bool false, .int .u64 0, .int .u64 0]) := TyI.mk' (by kernel_rfl) (fun _ => by kernel_rfl)

/-- What an index finds. -/
def findI (m : List (Str × Le)) (n : Str) : Option Le := if nameCk n ≠ 0 then none else (lkp m (foldN n)).or ((pars (foldN n)).findSome? fun p => lkp m ([1, 42] ++ p))
theorem findI_bad {m : List (Str × Le)} {n : Str} (h : nameCk n ≠ 0) : findI m n = none := if_pos h
theorem findI_own {m : List (Str × Le)} {n : Str} (h : nameCk n = 0) (h2 : (lkp m (foldN n)).isSome = true) : findI m n = lkp m (foldN n) := by
  rw [findI, if_neg (fun q => q h)]
  cases h3 : lkp m (foldN n) with
  | none => rw [h3] at h2; cases h2
  | some e => rfl
theorem findI_par {m : List (Str × Le)} {n : Str} (h : nameCk n = 0) (h2 : (lkp m (foldN n)).isSome = false) : findI m n = (pars (foldN n)).findSome? fun p => lkp m ([1, 42] ++ p) := by
  rw [findI, if_neg (fun q => q h)]
  cases h3 : lkp m (foldN n) with
  | none => rfl
  | some e => rw [h3] at h2; cases h2
theorem none_of {α : Type} {o : Option α} (h : o.isSome = false) : o = none := by cases o with
  | none => rfl
  | some q => cases h

set_option maxRecDepth 100000 in
set_option maxHeartbeats 1000000 in
theorem c_Find (x : Ixd) (n : Str) : RC Tryz.prog 14 #[.pointer (some ⟨x.b, 0, none⟩), .string (ba n)] [Ch.row x.b (ixC x) 104, Ch.mp x.rh encN encE x.hm] (α := Unit) (fun _ => .tuple #[.agg (elC ((findI x.hm n).getD le0)).toArray, .bool (findI x.hm n).isSome]) (fun _ => []) := by
  refine rc_of_W (args := [.pointer (some ⟨x.b, 0, none⟩), .string (ba n)]) 65 Tryz.func14 rfl rfl rfl (fun w0 => ?_)
  refine w_seq ?_
  refine w_region ?_
  refine o_alloc ty_34 rfl rfl (fun b1 => ?_)
  refine o_y (y_assign rfl) rfl rfl ?_
  refine wl_nil ?_
  refine e_seq ?_
  refine w_seq ?_
  refine w_seq ?_
  refine w_region ?_
  refine o_y (y_move rfl) rfl rfl ?_
  refine o_y (y_eqp Tryz.underlying39 rfl rfl) rfl rfl ?_
  refine wl_as (t := 15) (.bool false) rfl (congrArg Value.bool rfl) ?_
  refine o_y (y_move rfl) rfl rfl ?_
  refine wl_gyes rfl rfl ?_
  refine o_y (y_move rfl) rfl rfl ?_
  refine wl_gyes rfl rfl ?_
  refine o_callp rfl ent_56 (c_name_Check _) rfl ?_
  refine wl_gyes rfl rfl ?_
  refine o_y (y_neq rfl rfl) rfl rfl ?_
  refine wl_splitp (t := 19) rfl (fun h1_5 => ?_) (fun h1_5 => ?_)
  · skip
    refine o_y (y_pick_f rfl rfl) rfl rfl ?_
    refine wl_nil ?_
    refine e_seq ?_
    refine w_cond_t rfl ?_
    refine w_seq ?_
    refine w_region ?_
    refine o_y (y_build rfl (bu_34)) rfl rfl ?_
    refine o_store ty_34 rfl rfl rfl .z rfl rfl rfl rfl ?_
    refine o_y (y_assign rfl) rfl rfl ?_
    refine wl_nil ?_
    refine e_seq ?_
    refine w_ret ?_
    refine e_seq_ret ?_
    refine e_rsr (rs := [.cell 4 34, .tmp 5]) rfl (rs_cells 0 ty_34 rfl rfl rfl rfl (rs_tmp rfl rs_nil)) rfl (fun w hw => ?_)
    first
      | (have hq : findI x.hm n = none := findI_bad (by omega)
         exact ⟨(), by rw [hq]; rfl, hw.base, (hw.weak (List.nil_sublist _) (fun s hs => hs)).toNews⟩)
      | (have hq : findI x.hm n = lkp x.hm (foldN n) := findI_own hn0 h4_0
         exact ⟨(), by rw [hq, h4_0]; rfl, hw.base, (hw.weak (List.nil_sublist _) (fun s hs => hs)).toNews⟩)
      | (have hq : findI x.hm n = lkp x.hm ([1, 42] ++ rst c) := by
           rw [findI_par hn0 hno, hI.2, hp, List.findSome?_cons]
           cases h9 : lkp x.hm ([1, 42] ++ rst c) with
           | none => rw [h9] at h11_8; cases h11_8
           | some q => rfl
         exact ⟨(), by rw [hq, h11_8]; rfl, hw.base, (hw.weak (List.nil_sublist _) (fun s hs => hs)).toNews⟩)
      | (have hq : findI x.hm n = none := by
           rw [findI_par hn0 hno, hI.2, pars_eq, if_neg (by rw [← parB_cut hI.1, h7_0]; decide)]; rfl
         exact ⟨(), by rw [hq]; rfl, hw.base, (hw.weak (List.nil_sublist _) (fun s hs => hs)).toNews⟩)
      | (trace_state; fail)
  · skip
    have hn0 : nameCk n = 0 := by omega
    have hnl := (nameCk_zero.1 hn0).1
    have hfl := foldN_len hn0
    refine o_y (y_pick_f rfl rfl) rfl rfl ?_
    refine wl_nil ?_
    refine e_seq ?_
    refine w_cond_f rfl ?_
    refine w_skip ?_
    refine e_seq ?_
    refine w_seq ?_
    refine w_joinX (σ := Nat) (fun q => [(6, .pointer (some ⟨q, 0, none⟩)), (7, .bool (lkp x.hm (foldN n)).isSome)]) (fun q => [Ch.row q (elC ((lkp x.hm (foldN n)).getD le0)) 34]) (fun q => ?_) (fun J3 => ?_)
    · skip
      refine w_seq ?_
      refine w_region ?_
      refine o_y (y_move rfl) rfl rfl ?_
      refine wl_splitb (t := 32) rfl (fun h4_0 => ?_) (fun h4_0 => ?_)
      · skip
        refine wl_nil ?_
        refine e_seq ?_
        refine w_cond_t rfl ?_
        refine w_seq ?_
        refine w_region ?_
        refine o_y (y_loadrs 0 ty_34 rfl rfl rfl rfl) rfl rfl ?_
        refine o_store ty_34 rfl rfl rfl (.s (.z)) rfl rfl rfl rfl ?_
        refine o_y (y_assign rfl) rfl rfl ?_
        refine wl_nil ?_
        refine e_seq ?_
        refine w_ret ?_
        refine e_seq_ret ?_
        refine e_rsr (rs := [.cell 4 34, .tmp 5]) rfl (rs_cells 1 ty_34 rfl rfl rfl rfl (rs_tmp rfl rs_nil)) rfl (fun w hw => ?_)
        first
          | (have hq : findI x.hm n = none := findI_bad (by omega)
             exact ⟨(), by rw [hq]; rfl, hw.base, (hw.weak (List.nil_sublist _) (fun s hs => hs)).toNews⟩)
          | (have hq : findI x.hm n = lkp x.hm (foldN n) := findI_own hn0 h4_0
             exact ⟨(), by rw [hq, h4_0]; rfl, hw.base, (hw.weak (List.nil_sublist _) (fun s hs => hs)).toNews⟩)
          | (have hq : findI x.hm n = lkp x.hm ([1, 42] ++ rst c) := by
               rw [findI_par hn0 hno, hI.2, hp, List.findSome?_cons]
               cases h9 : lkp x.hm ([1, 42] ++ rst c) with
               | none => rw [h9] at h11_8; cases h11_8
               | some q => rfl
             exact ⟨(), by rw [hq, h11_8]; rfl, hw.base, (hw.weak (List.nil_sublist _) (fun s hs => hs)).toNews⟩)
          | (have hq : findI x.hm n = none := by
               rw [findI_par hn0 hno, hI.2, pars_eq, if_neg (by rw [← parB_cut hI.1, h7_0]; decide)]; rfl
             exact ⟨(), by rw [hq]; rfl, hw.base, (hw.weak (List.nil_sublist _) (fun s hs => hs)).toNews⟩)
          | (trace_state; fail)
      · skip
        refine wl_nil ?_
        refine e_seq ?_
        refine w_cond_f rfl ?_
        refine w_skip ?_
        refine e_seq ?_
        refine w_seq ?_
        refine w_seq ?_
        have hno : (lkp x.hm (foldN n)).isSome = false := h4_0
        refine w_region ?_
        refine o_y (y_move rfl) rfl rfl ?_
        refine o_callp rfl ent_55 (p_name_Fold _ (by omega)) rfl ?_
        refine o_callp rfl ent_65 (c_name_Parent _) rfl ?_
        refine o_y (y_move rfl) rfl rfl ?_
        refine o_y (y_extract rfl rfl) rfl rfl ?_
        refine o_y (y_extract rfl rfl) rfl rfl ?_
        refine o_y (y_assign rfl) rfl rfl ?_
        refine o_y (y_assign rfl) rfl rfl ?_
        refine wl_nil ?_
        refine e_seq ?_
        refine w_block ?_
        refine w_loop0 (σ := Str) [5, 8, 9, 10, 11, 12, 13, 40, 41, 42, 43, 44, 45, 46, 47, 48, 49, 50, 51, 52, 53, 54, 55, 56, 57, 58, 59, 60, 61, 62, 63] (fun c => nameCk c = 0 ∧ (pars (foldN n)).findSome? (fun p => lkp x.hm ([1, 42] ++ p)) = (pars c).findSome? (fun p => lkp x.hm ([1, 42] ++ p))) (fun c => c.length) (fun c => [(8, .string (ba (parN c))), (9, .bool (parB c))]) ((foldN n)) ?_ ⟨rfl, rfl, trivial⟩ (fun c hI => ?_)
        · exact ⟨nameCk_fold hn0, rfl⟩
        refine w_seq ?_
        refine w_seq ?_
        refine w_region ?_
        refine o_y (y_move rfl) rfl rfl ?_
        refine wl_splitb (t := 40) rfl (fun h7_0 => ?_) (fun h7_0 => ?_)
        · skip
          refine wl_nil ?_
          refine e_seq ?_
          refine w_cond_t rfl ?_
          refine w_skip ?_
          refine e_seq ?_
          refine w_seq ?_
          refine w_block ?_
          refine w_seq ?_
          have hc : cutOk c = true := by rw [← parB_cut hI.1]; exact h7_0
          have hp : pars c = rst c :: pars (rst c) := by rw [pars_eq, if_pos hc]
          have hrn := nameCk_rst hI.1 hc
          have hr2 := rst_len2 hc
          have hcl := (nameCk_zero.1 hI.1).1
          have hjoin : joinE [1, 42] (rst c) = 0 := joinE_zero.2 ⟨by decide, hrn, by simp; omega⟩
          have hpc : parN c = rst c := parN_yes h7_0
          refine w_region ?_
          refine o_y (y_move rfl) rfl rfl ?_
          refine wl_as (t := 47) (.string (ba (rst c))) rfl (by rw [hpc]) ?_
          refine o_callp rfl ent_66 (p_name_Join [1, 42] _ (by decide) (by omega)) rfl ?_
          refine o_y (y_move rfl) rfl rfl ?_
          refine o_y (y_extract rfl rfl) rfl rfl ?_
          refine o_y (y_extract rfl rfl) rfl rfl ?_
          refine o_y (y_assign rfl) rfl rfl ?_
          refine o_y (y_assign rfl) rfl rfl ?_
          refine wl_nil ?_
          refine e_seq ?_
          refine w_seq ?_
          refine w_seq ?_
          refine w_region ?_
          refine o_y (y_move rfl) rfl rfl ?_
          refine o_y (y_neq rfl rfl) rfl rfl ?_
          refine wl_af (t := 52) rfl (fun h => h hjoin) ?_
          refine wl_nil ?_
          refine e_seq ?_
          refine w_cond_f rfl ?_
          refine w_skip ?_
          refine e_seq ?_
          refine w_seq ?_
          refine w_region ?_
          refine o_y (y_move rfl) rfl rfl ?_
          refine o_y (y_nilCheck rfl) rfl rfl ?_
          refine o_y (y_field fa_104_1 rfl) rfl rfl ?_
          refine o_y (y_loadSo 0 ty_98 rfl rfl rfl) rfl rfl ?_
          refine o_y (y_move rfl) rfl rfl ?_
          refine wl_as (t := 58) (.string (ba ([1, 42] ++ rst c))) rfl (by rw [join_good hjoin]) ?_
          refine o_callq rfl ent_54 rfl (c_ask_h _ _ _) (fun w hw => (rd_cons (rd_S 1 rfl hw) rd_nil)) ?_
          refine o_y (y_move rfl) rfl rfl ?_
          refine o_y (y_extract rfl rfl) rfl rfl ?_
          refine o_y (y_extract rfl rfl) rfl rfl ?_
          refine wl_splitb (t := 61) rfl (fun h11_8 => ?_) (fun h11_8 => ?_)
          · skip
            refine o_alloc ty_34 rfl rfl (fun b2 => ?_)
            refine o_store ty_34 rfl rfl rfl .z rfl rfl rfl rfl ?_
            refine o_y (y_assign rfl) rfl rfl ?_
            refine wl_nil ?_
            refine e_seq ?_
            refine w_seq ?_
            refine w_region ?_
            refine o_y (y_move rfl) rfl rfl ?_
            refine wl_nil ?_
            refine e_seq ?_
            refine w_cond_t rfl ?_
            refine w_seq ?_
            refine w_region ?_
            refine o_y (y_loadrs 0 ty_34 rfl rfl rfl rfl) rfl rfl ?_
            refine o_store ty_34 rfl rfl rfl (.s (.s (.z))) rfl rfl rfl rfl ?_
            refine o_y (y_assign rfl) rfl rfl ?_
            refine wl_nil ?_
            refine e_seq ?_
            refine w_ret ?_
            refine e_blk_ret ?_
            refine e_seq_ret ?_
            refine e_loop_ret ?_
            refine e_blk_ret ?_
            refine e_seq_ret ?_
            refine e_rsr (rs := [.cell 4 34, .tmp 5]) rfl (rs_cells 2 ty_34 rfl rfl rfl rfl (rs_tmp rfl rs_nil)) rfl (fun w hw => ?_)
            first
              | (have hq : findI x.hm n = none := findI_bad (by omega)
                 exact ⟨(), by rw [hq]; rfl, hw.base, (hw.weak (List.nil_sublist _) (fun s hs => hs)).toNews⟩)
              | (have hq : findI x.hm n = lkp x.hm (foldN n) := findI_own hn0 h4_0
                 exact ⟨(), by rw [hq, h4_0]; rfl, hw.base, (hw.weak (List.nil_sublist _) (fun s hs => hs)).toNews⟩)
              | (have hq : findI x.hm n = lkp x.hm ([1, 42] ++ rst c) := by
                   rw [findI_par hn0 hno, hI.2, hp, List.findSome?_cons]
                   cases h9 : lkp x.hm ([1, 42] ++ rst c) with
                   | none => rw [h9] at h11_8; cases h11_8
                   | some q => rfl
                 exact ⟨(), by rw [hq, h11_8]; rfl, hw.base, (hw.weak (List.nil_sublist _) (fun s hs => hs)).toNews⟩)
              | (have hq : findI x.hm n = none := by
                   rw [findI_par hn0 hno, hI.2, pars_eq, if_neg (by rw [← parB_cut hI.1, h7_0]; decide)]; rfl
                 exact ⟨(), by rw [hq]; rfl, hw.base, (hw.weak (List.nil_sublist _) (fun s hs => hs)).toNews⟩)
              | (trace_state; fail)
          · skip
            refine o_alloc ty_34 rfl rfl (fun b3 => ?_)
            refine o_store ty_34 rfl rfl rfl .z rfl rfl rfl rfl ?_
            refine o_y (y_assign rfl) rfl rfl ?_
            refine wl_nil ?_
            refine e_seq ?_
            refine w_seq ?_
            refine w_region ?_
            refine o_y (y_move rfl) rfl rfl ?_
            refine wl_nil ?_
            refine e_seq ?_
            refine w_cond_f rfl ?_
            refine w_skip ?_
            refine e_blk ?_
            refine e_seq ?_
            refine w_region ?_
            refine o_y (y_move rfl) rfl rfl ?_
            refine wl_as (t := 42) (.string (ba (rst c))) rfl (by rw [hpc]) ?_
            refine o_callp rfl ent_65 (c_name_Parent _) rfl ?_
            refine o_y (y_move rfl) rfl rfl ?_
            refine o_y (y_extract rfl rfl) rfl rfl ?_
            refine o_y (y_extract rfl rfl) rfl rfl ?_
            refine o_y (y_assign rfl) rfl rfl ?_
            refine o_y (y_assign rfl) rfl rfl ?_
            refine wl_nil ?_
            refine e_back (rst c) ?_ ?_ ⟨rfl, rfl, trivial⟩ (by repeat (first | exact trivial | refine ⟨rfl, ?_⟩)) (fun w h => h.weak (.cons _ (List.Sublist.refl _)) (fun s hs => hs))
            · exact ⟨hrn, by rw [hI.2, hp, List.findSome?_cons, none_of h11_8]⟩
            · exact rst_lt hc
        · skip
          refine wl_nil ?_
          refine e_seq ?_
          refine w_cond_f rfl ?_
          refine w_exit ?_
          refine e_seq_exit ?_
          refine e_loop_exit ?_
          refine e_blk_hit ?_
          refine e_seq ?_
          refine w_seq ?_
          refine w_region ?_
          refine o_y (y_build rfl (bu_34)) rfl rfl ?_
          refine o_store ty_34 rfl rfl rfl (.s (.z)) rfl rfl rfl rfl ?_
          refine o_y (y_assign rfl) rfl rfl ?_
          refine wl_nil ?_
          refine e_seq ?_
          refine w_ret ?_
          refine e_rsr (rs := [.cell 4 34, .tmp 5]) rfl (rs_cells 1 ty_34 rfl rfl rfl rfl (rs_tmp rfl rs_nil)) rfl (fun w hw => ?_)
          first
            | (have hq : findI x.hm n = none := findI_bad (by omega)
               exact ⟨(), by rw [hq]; rfl, hw.base, (hw.weak (List.nil_sublist _) (fun s hs => hs)).toNews⟩)
            | (have hq : findI x.hm n = lkp x.hm (foldN n) := findI_own hn0 h4_0
               exact ⟨(), by rw [hq, h4_0]; rfl, hw.base, (hw.weak (List.nil_sublist _) (fun s hs => hs)).toNews⟩)
            | (have hq : findI x.hm n = lkp x.hm ([1, 42] ++ rst c) := by
                 rw [findI_par hn0 hno, hI.2, hp, List.findSome?_cons]
                 cases h9 : lkp x.hm ([1, 42] ++ rst c) with
                 | none => rw [h9] at h11_8; cases h11_8
                 | some q => rfl
               exact ⟨(), by rw [hq, h11_8]; rfl, hw.base, (hw.weak (List.nil_sublist _) (fun s hs => hs)).toNews⟩)
            | (have hq : findI x.hm n = none := by
                 rw [findI_par hn0 hno, hI.2, pars_eq, if_neg (by rw [← parB_cut hI.1, h7_0]; decide)]; rfl
               exact ⟨(), by rw [hq]; rfl, hw.base, (hw.weak (List.nil_sublist _) (fun s hs => hs)).toNews⟩)
            | (trace_state; fail)
    · skip
      refine w_seq ?_
      refine w_drawU 11 rfl mixed ?_
      refine u_take (i := 0) rfl wanted_none (y_move rfl) (fun w h => h) (fun w h => h) rfl (pk_seq (pk_seq pk_fn)) (by kernel_rfl) rfl ?_
      refine u_take (i := 1) rfl wanted_none (y_nilCheck rfl) (fun w h => h) (fun w h => h) rfl (pk_seq (pk_seq pk_fn)) (by kernel_rfl) rfl ?_
      refine u_take (i := 2) rfl wanted_none (y_field fa_104_1 rfl) (fun w h => h) (fun w h => h) rfl (pk_seq (pk_seq pk_fn)) (by kernel_rfl) rfl ?_
      refine u_take (i := 3) rfl wanted_none (y_loadSo 0 ty_98 rfl rfl rfl) (fun w h => h) (fun w h => h) rfl (pk_seq (pk_seq pk_fn)) (by kernel_rfl) rfl ?_
      refine u_take (i := 4) rfl wanted_none (y_move rfl) (fun w h => h) (fun w h => h) rfl (pk_seq (pk_seq pk_fn)) (by kernel_rfl) rfl ?_
      refine u_many (js := [5, 10]) (by kernel_rfl) rfl ?_
      refine wru_cons (i := 5) rfl rfl rfl (tame_call rfl ent_55) rfl ?_ ?_
      · skip
        refine o_callp rfl ent_55 (p_name_Fold _ (by omega)) rfl ?_
        refine wl_nil ?_
        refine eu_one (fun w h => h) ?_
        refine u_many (js := [6, 10]) (by kernel_rfl) rfl ?_
        refine wru_cons (i := 6) rfl rfl rfl (tame_call rfl ent_54) rfl ?_ ?_
        · skip
          refine o_callq rfl ent_54 rfl (c_ask_h _ _ _) (fun w hw => (rd_cons (rd_S 1 rfl hw) rd_nil)) ?_
          refine wl_nil ?_
          refine eu_one (fun w h => h) ?_
          refine u_take (i := 7) rfl wanted_none (y_move rfl) (fun w h => h) (fun w h => h) rfl (pk_seq (pk_seq pk_fn)) (by kernel_rfl) rfl ?_
          refine u_take (i := 8) rfl wanted_none (y_extract rfl rfl) (fun w h => h) (fun w h => h) rfl (pk_seq (pk_seq pk_fn)) (by kernel_rfl) rfl ?_
          refine u_many (js := [9, 10]) (by kernel_rfl) rfl ?_
          refine wru_cons (i := 9) rfl rfl rfl (fun _ _ _ => tame_op (by kernel_rfl)) rfl ?_ ?_
          · skip
            refine o_y (y_extract rfl rfl) rfl rfl ?_
            refine wl_nil ?_
            refine eu_one (fun w h => h) ?_
            refine u_one (i := 10) rfl rfl rfl (fun _ _ _ => tame_op (by kernel_rfl)) (by kernel_rfl) rfl ?_
            refine o_alloc ty_34 rfl rfl (fun b4 => ?_)
            refine wl_nil ?_
            refine eu_one (fun w h => h.weak (.cons _ (List.Sublist.refl _)) (fun s hs => hs)) ?_
            refine u_one (i := 11) rfl rfl rfl (fun _ _ _ => tame_op (by kernel_rfl)) (by kernel_rfl) rfl ?_
            refine o_store ty_34 rfl rfl rfl .z rfl rfl rfl rfl ?_
            refine wl_nil ?_
            refine eu_tail rfl ?_
            refine u_one (i := 12) rfl rfl rfl (fun _ _ _ => tame_op (by kernel_rfl)) (by kernel_rfl) rfl ?_
            refine o_y (y_assign rfl) rfl rfl ?_
            refine wl_nil ?_
            refine eu_tail rfl ?_
            refine u_done (by kernel_rfl) ?_
            refine e_seq ?_
            refine w_heap (fun w h => h.weak (.cons_cons _ (List.Sublist.refl _)) (fun s hs => hs)) ?_
            exact J3 b4 _ (by repeat (first | exact trivial | refine ⟨rfl, ?_⟩))
          refine wru_cons (i := 10) rfl rfl rfl (fun _ _ _ => tame_op (by kernel_rfl)) rfl ?_ ?_
          · skip
            refine o_alloc ty_34 rfl rfl (fun b5 => ?_)
            refine wl_nil ?_
            refine eu_one (fun w h => h.weak (.cons _ (List.Sublist.refl _)) (fun s hs => hs)) ?_
            refine u_many (js := [9, 11]) (by kernel_rfl) rfl ?_
            refine wru_cons (i := 9) rfl rfl rfl (fun _ _ _ => tame_op (by kernel_rfl)) rfl ?_ ?_
            · skip
              refine o_y (y_extract rfl rfl) rfl rfl ?_
              refine wl_nil ?_
              refine eu_one (fun w h => h.weak (.cons _ (List.Sublist.refl _)) (fun s hs => hs)) ?_
              refine u_one (i := 11) rfl rfl rfl (fun _ _ _ => tame_op (by kernel_rfl)) (by kernel_rfl) rfl ?_
              refine o_store ty_34 rfl rfl rfl .z rfl rfl rfl rfl ?_
              refine wl_nil ?_
              refine eu_tail rfl ?_
              refine u_one (i := 12) rfl rfl rfl (fun _ _ _ => tame_op (by kernel_rfl)) (by kernel_rfl) rfl ?_
              refine o_y (y_assign rfl) rfl rfl ?_
              refine wl_nil ?_
              refine eu_tail rfl ?_
              refine u_done (by kernel_rfl) ?_
              refine e_seq ?_
              refine w_heap (fun w h => h.weak (.cons_cons _ (List.Sublist.refl _)) (fun s hs => hs)) ?_
              exact J3 b5 _ (by repeat (first | exact trivial | refine ⟨rfl, ?_⟩))
            refine wru_cons (i := 11) rfl rfl rfl (fun _ _ _ => tame_op (by kernel_rfl)) rfl ?_ ?_
            · skip
              refine o_store ty_34 rfl rfl rfl .z rfl rfl rfl rfl ?_
              refine wl_nil ?_
              refine eu_tail rfl ?_
              refine u_one (i := 9) rfl rfl rfl (fun _ _ _ => tame_op (by kernel_rfl)) (by kernel_rfl) rfl ?_
              refine o_y (y_extract rfl rfl) rfl rfl ?_
              refine wl_nil ?_
              refine eu_tail rfl ?_
              refine u_one (i := 12) rfl rfl rfl (fun _ _ _ => tame_op (by kernel_rfl)) (by kernel_rfl) rfl ?_
              refine o_y (y_assign rfl) rfl rfl ?_
              refine wl_nil ?_
              refine eu_tail rfl ?_
              refine u_done (by kernel_rfl) ?_
              refine e_seq ?_
              refine w_heap (fun w h => h.weak (.cons_cons _ (List.Sublist.refl _)) (fun s hs => hs)) ?_
              exact J3 b5 _ (by repeat (first | exact trivial | refine ⟨rfl, ?_⟩))
            exact wru_nil
          exact wru_nil
        refine wru_cons (i := 10) rfl rfl rfl (fun _ _ _ => tame_op (by kernel_rfl)) rfl ?_ ?_
        · skip
          refine o_alloc ty_34 rfl rfl (fun b6 => ?_)
          refine wl_nil ?_
          refine eu_one (fun w h => h.weak (.cons _ (List.Sublist.refl _)) (fun s hs => hs)) ?_
          refine u_one (i := 6) rfl rfl rfl (tame_call rfl ent_54) (by kernel_rfl) rfl ?_
          refine o_callq rfl ent_54 rfl (c_ask_h _ _ _) (fun w hw => (rd_cons (rd_S 1 rfl hw) rd_nil)) ?_
          refine wl_nil ?_
          refine eu_one (fun w h => h.weak (.cons _ (List.Sublist.refl _)) (fun s hs => hs)) ?_
          refine u_take (i := 7) rfl wanted_none (y_move rfl) (fun w h => h.weak (.cons _ (List.Sublist.refl _)) (fun s hs => hs)) (fun w h => h) rfl (pk_seq (pk_seq pk_fn)) (by kernel_rfl) rfl ?_
          refine u_take (i := 8) rfl wanted_none (y_extract rfl rfl) (fun w h => h.weak (.cons _ (List.Sublist.refl _)) (fun s hs => hs)) (fun w h => h) rfl (pk_seq (pk_seq pk_fn)) (by kernel_rfl) rfl ?_
          refine u_many (js := [9, 11]) (by kernel_rfl) rfl ?_
          refine wru_cons (i := 9) rfl rfl rfl (fun _ _ _ => tame_op (by kernel_rfl)) rfl ?_ ?_
          · skip
            refine o_y (y_extract rfl rfl) rfl rfl ?_
            refine wl_nil ?_
            refine eu_one (fun w h => h.weak (.cons _ (List.Sublist.refl _)) (fun s hs => hs)) ?_
            refine u_one (i := 11) rfl rfl rfl (fun _ _ _ => tame_op (by kernel_rfl)) (by kernel_rfl) rfl ?_
            refine o_store ty_34 rfl rfl rfl .z rfl rfl rfl rfl ?_
            refine wl_nil ?_
            refine eu_tail rfl ?_
            refine u_one (i := 12) rfl rfl rfl (fun _ _ _ => tame_op (by kernel_rfl)) (by kernel_rfl) rfl ?_
            refine o_y (y_assign rfl) rfl rfl ?_
            refine wl_nil ?_
            refine eu_tail rfl ?_
            refine u_done (by kernel_rfl) ?_
            refine e_seq ?_
            refine w_heap (fun w h => h.weak (.cons_cons _ (List.Sublist.refl _)) (fun s hs => hs)) ?_
            exact J3 b6 _ (by repeat (first | exact trivial | refine ⟨rfl, ?_⟩))
          refine wru_cons (i := 11) rfl rfl rfl (fun _ _ _ => tame_op (by kernel_rfl)) rfl ?_ ?_
          · skip
            refine o_store ty_34 rfl rfl rfl .z rfl rfl rfl rfl ?_
            refine wl_nil ?_
            refine eu_tail rfl ?_
            refine u_one (i := 9) rfl rfl rfl (fun _ _ _ => tame_op (by kernel_rfl)) (by kernel_rfl) rfl ?_
            refine o_y (y_extract rfl rfl) rfl rfl ?_
            refine wl_nil ?_
            refine eu_tail rfl ?_
            refine u_one (i := 12) rfl rfl rfl (fun _ _ _ => tame_op (by kernel_rfl)) (by kernel_rfl) rfl ?_
            refine o_y (y_assign rfl) rfl rfl ?_
            refine wl_nil ?_
            refine eu_tail rfl ?_
            refine u_done (by kernel_rfl) ?_
            refine e_seq ?_
            refine w_heap (fun w h => h.weak (.cons_cons _ (List.Sublist.refl _)) (fun s hs => hs)) ?_
            exact J3 b6 _ (by repeat (first | exact trivial | refine ⟨rfl, ?_⟩))
          exact wru_nil
        exact wru_nil
      refine wru_cons (i := 10) rfl rfl rfl (fun _ _ _ => tame_op (by kernel_rfl)) rfl ?_ ?_
      · skip
        refine o_alloc ty_34 rfl rfl (fun b7 => ?_)
        refine wl_nil ?_
        refine eu_one (fun w h => h.weak (.cons _ (List.Sublist.refl _)) (fun s hs => hs)) ?_
        refine u_one (i := 5) rfl rfl rfl (tame_call rfl ent_55) (by kernel_rfl) rfl ?_
        refine o_callp rfl ent_55 (p_name_Fold _ (by omega)) rfl ?_
        refine wl_nil ?_
        refine eu_one (fun w h => h.weak (.cons _ (List.Sublist.refl _)) (fun s hs => hs)) ?_
        refine u_one (i := 6) rfl rfl rfl (tame_call rfl ent_54) (by kernel_rfl) rfl ?_
        refine o_callq rfl ent_54 rfl (c_ask_h _ _ _) (fun w hw => (rd_cons (rd_S 1 rfl hw) rd_nil)) ?_
        refine wl_nil ?_
        refine eu_one (fun w h => h.weak (.cons _ (List.Sublist.refl _)) (fun s hs => hs)) ?_
        refine u_take (i := 7) rfl wanted_none (y_move rfl) (fun w h => h.weak (.cons _ (List.Sublist.refl _)) (fun s hs => hs)) (fun w h => h) rfl (pk_seq (pk_seq pk_fn)) (by kernel_rfl) rfl ?_
        refine u_take (i := 8) rfl wanted_none (y_extract rfl rfl) (fun w h => h.weak (.cons _ (List.Sublist.refl _)) (fun s hs => hs)) (fun w h => h) rfl (pk_seq (pk_seq pk_fn)) (by kernel_rfl) rfl ?_
        refine u_many (js := [9, 11]) (by kernel_rfl) rfl ?_
        refine wru_cons (i := 9) rfl rfl rfl (fun _ _ _ => tame_op (by kernel_rfl)) rfl ?_ ?_
        · skip
          refine o_y (y_extract rfl rfl) rfl rfl ?_
          refine wl_nil ?_
          refine eu_one (fun w h => h.weak (.cons _ (List.Sublist.refl _)) (fun s hs => hs)) ?_
          refine u_one (i := 11) rfl rfl rfl (fun _ _ _ => tame_op (by kernel_rfl)) (by kernel_rfl) rfl ?_
          refine o_store ty_34 rfl rfl rfl .z rfl rfl rfl rfl ?_
          refine wl_nil ?_
          refine eu_tail rfl ?_
          refine u_one (i := 12) rfl rfl rfl (fun _ _ _ => tame_op (by kernel_rfl)) (by kernel_rfl) rfl ?_
          refine o_y (y_assign rfl) rfl rfl ?_
          refine wl_nil ?_
          refine eu_tail rfl ?_
          refine u_done (by kernel_rfl) ?_
          refine e_seq ?_
          refine w_heap (fun w h => h.weak (.cons_cons _ (List.Sublist.refl _)) (fun s hs => hs)) ?_
          exact J3 b7 _ (by repeat (first | exact trivial | refine ⟨rfl, ?_⟩))
        refine wru_cons (i := 11) rfl rfl rfl (fun _ _ _ => tame_op (by kernel_rfl)) rfl ?_ ?_
        · skip
          refine o_store ty_34 rfl rfl rfl .z rfl rfl rfl rfl ?_
          refine wl_nil ?_
          refine eu_tail rfl ?_
          refine u_one (i := 9) rfl rfl rfl (fun _ _ _ => tame_op (by kernel_rfl)) (by kernel_rfl) rfl ?_
          refine o_y (y_extract rfl rfl) rfl rfl ?_
          refine wl_nil ?_
          refine eu_tail rfl ?_
          refine u_one (i := 12) rfl rfl rfl (fun _ _ _ => tame_op (by kernel_rfl)) (by kernel_rfl) rfl ?_
          refine o_y (y_assign rfl) rfl rfl ?_
          refine wl_nil ?_
          refine eu_tail rfl ?_
          refine u_done (by kernel_rfl) ?_
          refine e_seq ?_
          refine w_heap (fun w h => h.weak (.cons_cons _ (List.Sublist.refl _)) (fun s hs => hs)) ?_
          exact J3 b7 _ (by repeat (first | exact trivial | refine ⟨rfl, ?_⟩))
        exact wru_nil
      exact wru_nil

/-- What is held: a host, its address. -/
structure Hd where
  host : Str
  ad : Ad
def hdC (h : Hd) : List Value := [.string (ba h.host), .bool h.ad.six, .int .u64 h.ad.hi, .int .u64 h.ad.lo]
theorem enc_hd : Enc hdC 4 := ⟨fun _ => rfl, fun _ => rfl⟩
set_option maxRecDepth 100000 in
set_option maxHeartbeats 1000000 in
theorem c_ref18_New0 (v : Int) (l : List Le) (A : Option Addr) (c : Nat) (hok : TbOk l) (hlen : l.length ≤ 1000000000) (h0 : tabCk v l = 0) : RC Tryz.prog 13 #[.agg (tbC v A l.length c).toArray, .slice none 0 0] [Ch.rd A 7 elC l, Ch.rall (l.flatMap elR)] (α := Nat × Option Addr × Nat) (fun o => .tuple #[.pointer (some ⟨o.1, 0, none⟩), .int .i64 0]) (fun o => [Ch.row o.1 [.int .i64 v, .slice A l.length c, .slice o.2.1 0 o.2.2] 116]) := by
  refine rc_of_W (args := [.agg (tbC v A l.length c).toArray, .slice none 0 0]) 83 Tryz.func13 rfl rfl rfl (fun w0 => ?_)
  refine w_seq ?_
  refine w_region ?_
  refine o_box rfl rfl rfl (fun b1 => ?_)
  refine o_y (y_assign rfl) rfl rfl ?_
  refine o_y (y_assign rfl) rfl rfl ?_
  refine wl_nil ?_
  refine e_seq ?_
  refine w_seq ?_
  refine w_region ?_
  refine o_y (y_loadrs 0 ty_24 rfl rfl rfl rfl) rfl rfl ?_
  refine o_callq rfl ent_61 rfl (c_ref17_Check _ _ _ _ hok (by omega)) (fun w hw => (rd_cons (rd_S 0 rfl hw) (rd_cons (rd_S 1 rfl hw) rd_nil))) ?_
  refine o_y (y_assign rfl) rfl rfl ?_
  refine wl_nil ?_
  refine e_seq ?_
  refine w_seq ?_
  refine w_seq ?_
  refine w_region ?_
  refine o_y (y_move rfl) rfl rfl ?_
  refine o_y (y_neq rfl rfl) rfl rfl ?_
  refine wl_af (t := 14) rfl (by omega) ?_
  refine wl_nil ?_
  refine e_seq ?_
  refine w_cond_f rfl ?_
  refine w_skip ?_
  refine e_seq ?_
  refine w_seq ?_
  refine w_seq ?_
  refine w_region ?_
  refine o_y (y_assign rfl) rfl rfl ?_
  refine wl_nil ?_
  refine e_seq ?_
  refine w_block ?_
  refine w_loop0 (σ := Unit) [4, 5, 7, 8, 9, 10, 16, 17, 18, 19, 20, 21, 22, 23, 24, 25, 26, 27, 28, 29, 30, 31, 32, 33, 34, 35, 36, 37, 38, 39, 40, 41, 42, 43, 44, 45, 46, 47, 48, 49, 50, 51, 52, 53, 54, 55, 56, 57, 58, 59, 60, 61, 62, 63, 64, 65, 66, 67, 68, 69, 70, 71, 72, 73, 74, 75, 76] (fun _ => True) (fun _ => 0) (fun _ => [(7, .int .i64 0)]) (()) ?_ ⟨rfl, trivial⟩ (fun _ hI => ?_)
  · trivial
  refine w_seq ?_
  refine w_seq ?_
  refine w_region ?_
  refine o_y (y_move rfl) rfl rfl ?_
  refine o_y (y_move rfl) rfl rfl ?_
  refine o_y (y_lenl Tryz.underlying25 rfl) rfl rfl ?_
  refine o_y (y_lss rfl rfl) rfl rfl ?_
  refine wl_af (t := 19) rfl (by simp) ?_
  refine wl_nil ?_
  refine e_seq ?_
  refine w_cond_f rfl ?_
  refine w_exit ?_
  refine e_seq_exit ?_
  refine e_loop_exit ?_
  refine e_blk_hit ?_
  refine e_seq ?_
  refine w_seq ?_
  refine w_draw 8 rfl mixed ?_
  refine a_take (i := 0) rfl wanted_none (y_loadrs 0 ty_24 rfl rfl rfl rfl) (fun w h => h) (fun w h => h) rfl (pk_seq pk_fn) (by kernel_rfl) rfl ?_
  refine a_take (i := 2) rfl wanted_none (y_move rfl) (fun w h => h) (fun w h => h) rfl (pk_seq pk_fn) (by kernel_rfl) rfl ?_
  refine a_one (i := 1) rfl rfl rfl (fun _ _ _ => tame_op (by kernel_rfl)) (by kernel_rfl) rfl ?_
  refine o_bsl (vs := []) (([] : List Hd) : List (Hd)) enc_hd Tryz.underlying25 ty_46 rfl rfl rfl rfl rfl rfl (fun As2 => ?_)
  refine wl_nil ?_
  refine e_one (fun w h => h.weak (.cons _ (List.Sublist.refl _)) (fun s hs => hs)) ?_
  refine a_one (i := 3) rfl rfl rfl (fun _ _ _ => tame_op (by kernel_rfl)) (by kernel_rfl) rfl ?_
  refine o_appm (enc := hdC) (sz := 4) ([] : List Hd) Tryz.underlying25 ty_46 rfl rfl rfl (fun A c => .z) (src_nil Tryz.underlying25) (by simp only [List.length_cons, List.length_nil, Nat.zero_add]; omega) (by simp only [List.length_cons, List.length_nil, Nat.zero_add]; omega) rfl (fun A2 c2 => ?_)
  refine wl_nil ?_
  refine e_one (fun w h => h.weak (.cons _ (List.Sublist.refl _)) (fun s hs => hs)) ?_
  refine a_take (i := 4) rfl wanted_none (y_build rfl (bu_116_0_1 _ _ _ _ _ _ _)) (fun w h => h.weak (.cons _ (List.Sublist.refl _)) (fun s hs => hs)) (fun w h => h) rfl (pk_seq pk_fn) (by kernel_rfl) rfl ?_
  refine a_one (i := 5) rfl rfl rfl (fun _ _ _ => tame_op (by kernel_rfl)) (by kernel_rfl) rfl ?_
  refine o_box rfl rfl rfl (fun b4 => ?_)
  refine wl_nil ?_
  refine e_one (fun w h => h.weak (.cons _ (.cons _ (List.Sublist.refl _))) (fun s hs => hs)) ?_
  refine a_take (i := 6) rfl wanted_none (y_assign rfl) (fun w h => h.weak (.cons _ (.cons _ (List.Sublist.refl _))) (fun s hs => hs)) (fun w h => h) rfl (pk_seq pk_fn) (by kernel_rfl) rfl ?_
  refine a_take (i := 7) rfl wanted_none (y_assign rfl) (fun w h => h.weak (.cons _ (.cons _ (List.Sublist.refl _))) (fun s hs => hs)) (fun w h => h) rfl (pk_seq pk_fn) (by kernel_rfl) rfl ?_
  refine a_done (by kernel_rfl) ?_
  refine e_seq ?_
  refine w_ret ?_
  refine e_ret (ts := [4, 5]) rfl rfl rfl (fun w hw => ?_)
  exact ⟨(b4, A2, c2), rfl, hw.base, (hw.weak (.cons_cons _ (.cons _ (.cons _ .slnil))) (fun s hs => hs)).toNews⟩

def bestI : Option Nat → Int
  | none => -1
  | some j => j
def hst (l : List Le) (i : Nat) : Str := (l.getD i le0).e.host
/-- The best match so far. -/
def BestOk (l : List Le) (n : Str) (i : Nat) (b : Option Nat) (long : Nat) : Prop := (∀ q, q < i → same2 (hst l q) n = false) ∧
  match b with
  | none => long = 0 ∧ ∀ q, q < i → matchN (hst l q) n = false
  | some j => j < i ∧ matchN (hst l j) n = true ∧ long = (labsN (hst l j)).length ∧ ∀ q, q < i → matchN (hst l q) n = true → (labsN (hst l q)).length ≤ long
theorem best_zero (l : List Le) (n : Str) : BestOk l n 0 none 0 := ⟨nofun, rfl, nofun⟩
theorem match_pos {w n : Str} (h : matchN w n = true) : 1 ≤ (labsN w).length := by
  simp only [matchN, Bool.and_eq_true] at h
  have h1 := h.1.1.1
  simp only [wildN, Bool.and_eq_true, decide_eq_true_eq] at h1
  refine labs_pos h1.1 (fun e => ?_)
  rw [e] at h1
  have := h1.2.length_le
  simp at this
theorem best_yes {l : List Le} {n : Str} {i : Nat} {b : Option Nat} {long : Nat} (h : BestOk l n i b long) (hs : same2 (hst l i) n = false) (hm : matchN (hst l i) n = true) (hl : long < (labsN (hst l i)).length) : BestOk l n (i + 1) (some i) (labsN (hst l i)).length := by
  obtain ⟨h1, h2⟩ := h
  refine ⟨fun q hq => ?_, by omega, hm, rfl, fun q hq hqm => ?_⟩
  · by_cases e : q = i
    · rw [e]; exact hs
    · exact h1 q (by omega)
  · by_cases e : q = i
    · rw [e]; exact Nat.le_refl _
    · cases b with
      | none => rw [h2.2 q (by omega)] at hqm; cases hqm
      | some j => have := h2.2.2.2 q (by omega) hqm; omega
theorem best_no {l : List Le} {n : Str} {i : Nat} {b : Option Nat} {long : Nat} (h : BestOk l n i b long) (hs : same2 (hst l i) n = false) (hm : matchN (hst l i) n = false ∨ ¬ long < (labsN (hst l i)).length) : BestOk l n (i + 1) b long := by
  obtain ⟨h1, h2⟩ := h
  refine ⟨fun q hq => ?_, ?_⟩
  · by_cases e : q = i
    · rw [e]; exact hs
    · exact h1 q (by omega)
  · cases b with
    | none =>
      refine ⟨h2.1, fun q hq => ?_⟩
      by_cases e : q = i
      · rw [e]
        rcases hm with hm | hm
        · exact hm
        · cases hmm : matchN (hst l i) n with
          | false => rfl
          | true => have := match_pos hmm; have := h2.1; omega
      · exact h2.2 q (by omega)
    | some j =>
      refine ⟨by have := h2.1; omega, h2.2.1, h2.2.2.1, fun q hq hqm => ?_⟩
      by_cases e : q = i
      · rw [e] at hqm ⊢
        rcases hm with hm | hm
        · rw [hm] at hqm; cases hqm
        · omega
      · exact h2.2.2.2 q (by omega) hqm
/-- What the reference finds. -/
def RefSpec (l : List Le) (n : Str) : Option Le → Prop
  | none => (∀ x ∈ l, same2 x.e.host n = false) ∧ ∀ x ∈ l, matchN x.e.host n = false
  | some y => y ∈ l ∧ (same2 y.e.host n = true ∨ ((∀ x ∈ l, same2 x.e.host n = false) ∧ matchN y.e.host n = true ∧ ∀ x ∈ l, matchN x.e.host n = true → (labsN x.e.host).length ≤ (labsN y.e.host).length))
theorem at_all {l : List Le} {p : Str → Prop} (h : ∀ q, q < l.length → p (hst l q)) : ∀ x ∈ l, p x.e.host := fun x hx => by
  obtain ⟨i, hi, rfl⟩ := List.mem_iff_getElem.1 hx
  have := h i hi
  rwa [hst, List.getD_eq_getElem?_getD, List.getElem?_eq_getElem hi] at this
theorem spec_none {l : List Le} {n : Str} {b : Option Nat} {long : Nat} (h : BestOk l n l.length b long) (hb : bestI b < 0) : RefSpec l n none := by
  cases b with
  | none => exact ⟨at_all (p := fun s => same2 s n = false) h.1, at_all (p := fun s => matchN s n = false) h.2.2⟩
  | some j => exact absurd hb (by simp only [bestI]; omega)
theorem spec_best {l : List Le} {n : Str} {b : Option Nat} {long : Nat} (h : BestOk l n l.length b long) (hb : ¬ bestI b < 0) : (bestI b).toNat < l.length ∧ RefSpec l n (some (l.getD (bestI b).toNat le0)) := by
  cases b with
  | none => exact absurd (by decide) hb
  | some j =>
    obtain ⟨h1, h2, h3, h4, h5⟩ := h
    have e : (bestI (some j)).toNat = j := by simp [bestI]
    rw [e]
    refine ⟨h2, mem_getD h2, .inr ⟨at_all (p := fun s => same2 s n = false) h1, h3, ?_⟩⟩
    exact at_all (p := fun s => matchN s n = true → (labsN s).length ≤ (labsN (hst l j)).length) (fun q hq hm => by rw [← h4]; exact h5 q hq hm)

theorem c_ref18_Find (v : Int) (l : List Le) (A : Option Addr) (c : Nat) (b : Nat) (H : Option Addr) (h : Nat) (n : Str) (hok : TbOk l) (hlen : l.length ≤ 1000000000) (hn : n.length ≤ 1000000000) : RC Tryz.prog 15 #[.pointer (some ⟨b, 0, none⟩), .string (ba n)] [Ch.row b [.int .i64 v, .slice A l.length c, .slice H 0 h] 116, Ch.rd A 7 elC l, Ch.rall (l.flatMap elR)] (α := {r : Option Le // RefSpec l n r}) (fun o => .tuple #[.agg (elC (o.1.getD le0)).toArray, .bool o.1.isSome]) (fun o => []) := by
  refine rc_of_W (args := [.pointer (some ⟨b, 0, none⟩), .string (ba n)]) 65 Tryz.func15 rfl rfl rfl (fun w0 => ?_)
  refine w_seq ?_
  refine w_region ?_
  refine o_alloc ty_34 rfl rfl (fun b1 => ?_)
  refine o_y (y_assign rfl) rfl rfl ?_
  refine wl_nil ?_
  refine e_seq ?_
  refine w_seq ?_
  refine w_region ?_
  refine o_y (y_assign rfl) rfl rfl ?_
  refine o_y (y_assign rfl) rfl rfl ?_
  refine wl_nil ?_
  refine e_seq ?_
  refine w_seq ?_
  refine w_seq ?_
  refine w_region ?_
  refine o_y (y_assign rfl) rfl rfl ?_
  refine wl_nil ?_
  refine e_seq ?_
  refine w_block ?_
  refine w_loop0 (σ := Nat × Option Nat × Nat) [5, 6, 7, 8, 9, 10, 11, 12, 13, 14, 15, 16, 17, 18, 19, 20, 21, 22, 23, 24, 25, 26, 27, 28, 29, 30, 31, 32, 33, 34, 35, 36, 37, 38, 39, 40, 41, 42, 43, 44, 45, 46, 47, 48, 49, 50, 51, 52, 53] (fun q => q.1 ≤ l.length ∧ BestOk l n q.1 q.2.1 q.2.2) (fun q => l.length - q.1) (fun q => [(8, .int .i64 q.1), (6, .int .i64 (bestI q.2.1)), (7, .int .i64 q.2.2)]) ((0, none, 0)) ?_ ⟨rfl, rfl, rfl, trivial⟩ (fun q hI => ?_)
  · exact ⟨Nat.zero_le _, best_zero l n⟩
  obtain ⟨i, b0, long⟩ := q
  dsimp only at hI ⊢
  refine w_seq ?_
  refine w_seq ?_
  refine w_region ?_
  refine o_y (y_move rfl) rfl rfl ?_
  refine o_y (y_move rfl) rfl rfl ?_
  refine o_y (y_nilCheck rfl) rfl rfl ?_
  refine o_y (y_field fa_116_0 rfl) rfl rfl ?_
  refine o_y (y_field fa_24_1 rfl) rfl rfl ?_
  refine o_y (y_loadSo 0 ty_22 rfl rfl rfl) rfl rfl ?_
  refine o_y (y_lenl Tryz.underlying22 rfl) rfl rfl ?_
  refine o_y (y_lss rfl rfl) rfl rfl ?_
  refine wl_splitp (t := 17) rfl (fun h3_7 => ?_) (fun h3_7 => ?_)
  · skip
    have hi9 : i < l.length := by omega
    have hb9 := hok.at hi9
    have hh9 := hb9.h
    have hll := (labsN_le (l.getD i le0).e.host (by omega)).1
    refine wl_nil ?_
    refine e_seq ?_
    refine w_cond_t rfl ?_
    refine w_skip ?_
    refine e_seq ?_
    refine w_seq ?_
    refine w_block ?_
    refine w_seq ?_
    refine w_region ?_
    refine o_y (y_move rfl) rfl rfl ?_
    refine o_y (y_nilCheck rfl) rfl rfl ?_
    refine o_y (y_field fa_116_0 rfl) rfl rfl ?_
    refine o_y (y_field fa_24_1 rfl) rfl rfl ?_
    refine o_y (y_loadSo 0 ty_22 rfl rfl rfl) rfl rfl ?_
    refine o_y (y_move rfl) rfl rfl ?_
    refine o_y (y_ixm  Tryz.underlying22 ty_34 rfl rfl (rs_S 1 rfl) rfl (by omega)) rfl rfl ?_
    refine o_y (y_field fa_34_0 rfl) rfl rfl ?_
    refine o_y (y_ldm0 enc_le le0 ty_26 rfl (rs_S 1 rfl) (by omega) rfl rfl) rfl rfl ?_
    refine o_y (y_assign rfl) rfl rfl ?_
    refine wl_nil ?_
    refine e_seq ?_
    refine w_seq ?_
    refine w_seq ?_
    refine w_region ?_
    refine o_y (y_move rfl) rfl rfl ?_
    refine o_y (y_move rfl) rfl rfl ?_
    refine o_callp rfl ent_64 (c_ref02_Same _ _ (by omega) (by omega)) rfl ?_
    refine wl_splitb (t := 31) rfl (fun h6_2 => ?_) (fun h6_2 => ?_)
    · skip
      refine wl_nil ?_
      refine e_seq ?_
      refine w_cond_t rfl ?_
      refine w_seq ?_
      refine w_region ?_
      refine o_y (y_move rfl) rfl rfl ?_
      refine o_y (y_nilCheck rfl) rfl rfl ?_
      refine o_y (y_field fa_116_0 rfl) rfl rfl ?_
      refine o_y (y_field fa_24_1 rfl) rfl rfl ?_
      refine o_y (y_loadSo 0 ty_22 rfl rfl rfl) rfl rfl ?_
      refine o_y (y_move rfl) rfl rfl ?_
      refine o_y (y_ixm  Tryz.underlying22 ty_34 rfl rfl (rs_S 1 rfl) rfl (by omega)) rfl rfl ?_
      refine o_y (y_ldsm0 enc_le le0 ty_34 rfl (rs_S 1 rfl) (by omega) rfl rfl rfl) rfl rfl ?_
      refine o_store ty_34 rfl rfl rfl .z rfl rfl rfl rfl ?_
      refine o_y (y_assign rfl) rfl rfl ?_
      refine wl_nil ?_
      refine e_seq ?_
      refine w_ret ?_
      refine e_seq_ret ?_
      refine e_blk_ret ?_
      refine e_seq_ret ?_
      refine e_loop_ret ?_
      refine e_blk_ret ?_
      refine e_seq_ret ?_
      refine e_rsr (rs := [.cell 4 34, .tmp 5]) rfl (rs_cells 0 ty_34 rfl rfl rfl rfl (rs_tmp rfl rs_nil)) rfl (fun w hw => ?_)
      exact ⟨⟨some (l.getD i le0), mem_getD (by omega), .inl h6_2⟩, rfl, hw.base, (hw.weak (List.nil_sublist _) (fun s hs => hs)).toNews⟩
    · skip
      refine wl_nil ?_
      refine e_seq ?_
      refine w_cond_f rfl ?_
      refine w_skip ?_
      refine e_seq ?_
      refine w_seq ?_
      refine w_region ?_
      refine o_y (y_move rfl) rfl rfl ?_
      refine o_y (y_move rfl) rfl rfl ?_
      refine o_callp rfl ent_67 (p_ref02_Matches _ _ (by omega) (by omega)) rfl ?_
      refine wl_splitb (t := 42) rfl (fun h8_2 => ?_) (fun h8_2 => ?_)
      · skip
        refine o_y (y_move rfl) rfl rfl ?_
        refine wl_gyes rfl rfl ?_
        refine o_y (y_move rfl) rfl rfl ?_
        refine wl_gyes rfl rfl ?_
        refine o_callr1 rfl ent_68 rfl (c_ref02_Labels _) (fun w hw => rd_nil) (fun ⟨A1, c1⟩ => ?_)
        refine wl_gyes rfl rfl ?_
        refine o_y (y_lenl Tryz.underlying71 rfl) rfl rfl ?_
        refine wl_gyes rfl rfl ?_
        refine o_y (y_move rfl) rfl rfl ?_
        refine wl_gyes rfl rfl ?_
        refine o_y (y_gtr rfl rfl) rfl rfl ?_
        refine wl_splitp (t := 48) rfl (fun h8_8 => ?_) (fun h8_8 => ?_)
        · skip
          refine o_y (y_pick_t rfl rfl) rfl rfl ?_
          refine wl_nil ?_
          refine e_seq ?_
          refine w_cond_t rfl ?_
          refine w_region ?_
          refine o_y (y_move rfl) rfl rfl ?_
          refine o_y (y_move rfl) rfl rfl ?_
          refine o_callr1 rfl ent_68 rfl (c_ref02_Labels _) (fun w hw => rd_nil) (fun ⟨A2, c2⟩ => ?_)
          refine o_y (y_lenl Tryz.underlying71 rfl) rfl rfl ?_
          refine o_y (y_assign rfl) rfl rfl ?_
          refine o_y (y_assign rfl) rfl rfl ?_
          refine wl_nil ?_
          refine e_blk ?_
          refine e_seq ?_
          refine w_region ?_
          refine o_y (y_move rfl) rfl rfl ?_
          refine o_y (y_addi rfl rfl (by omega) (by omega)) rfl rfl ?_
          refine o_y (y_assign rfl) rfl rfl ?_
          refine wl_nil ?_
          refine e_back ((i + 1, some i, (labsN (hst l i)).length)) ?_ ?_ ⟨rfl, rfl, rfl, trivial⟩ (by repeat (first | exact trivial | refine ⟨rfl, ?_⟩)) (fun w h => h.weak (.cons _ (.cons _ (List.Sublist.refl _))) (fun s hs => hs))
          · exact ⟨by show i + 1 ≤ _; omega, best_yes hI.2 h6_2 h8_2 (by show long < (labsN (l.getD i le0).e.host).length; omega)⟩
          · show l.length - (i + 1) < l.length - i
            omega
        · skip
          refine o_y (y_pick_t rfl rfl) rfl rfl ?_
          refine wl_nil ?_
          refine e_seq ?_
          refine w_cond_f rfl ?_
          refine w_skip ?_
          refine e_blk ?_
          refine e_seq ?_
          refine w_region ?_
          refine o_y (y_move rfl) rfl rfl ?_
          refine o_y (y_addi rfl rfl (by omega) (by omega)) rfl rfl ?_
          refine o_y (y_assign rfl) rfl rfl ?_
          refine wl_nil ?_
          refine e_back ((i + 1, b0, long)) ?_ ?_ ⟨rfl, rfl, rfl, trivial⟩ (by repeat (first | exact trivial | refine ⟨rfl, ?_⟩)) (fun w h => h.weak (.cons _ (List.Sublist.refl _)) (fun s hs => hs))
          · exact ⟨by show i + 1 ≤ _; omega, best_no hI.2 h6_2 (by first | exact .inl h8_2 | exact .inr (by show ¬ long < (labsN (l.getD i le0).e.host).length; omega))⟩
          · show l.length - (i + 1) < l.length - i
            omega
      · skip
        refine o_y (y_move rfl) rfl rfl ?_
        refine wl_gno rfl rfl rfl rfl ?_
        refine wl_gno rfl rfl rfl rfl ?_
        refine wl_gno rfl rfl rfl rfl ?_
        refine wl_gno rfl rfl rfl rfl ?_
        refine wl_gno rfl rfl rfl rfl ?_
        refine o_y (y_pick_f rfl rfl) rfl rfl ?_
        refine wl_nil ?_
        refine e_seq ?_
        refine w_cond_f rfl ?_
        refine w_skip ?_
        refine e_blk ?_
        refine e_seq ?_
        refine w_region ?_
        refine o_y (y_move rfl) rfl rfl ?_
        refine o_y (y_addi rfl rfl (by omega) (by omega)) rfl rfl ?_
        refine o_y (y_assign rfl) rfl rfl ?_
        refine wl_nil ?_
        refine e_back ((i + 1, b0, long)) ?_ ?_ ⟨rfl, rfl, rfl, trivial⟩ (by repeat (first | exact trivial | refine ⟨rfl, ?_⟩)) (fun w h => h)
        · exact ⟨by show i + 1 ≤ _; omega, best_no hI.2 h6_2 (by first | exact .inl h8_2 | exact .inr (by show ¬ long < (labsN (l.getD i le0).e.host).length; omega))⟩
        · show l.length - (i + 1) < l.length - i
          omega
  · skip
    refine wl_nil ?_
    refine e_seq ?_
    refine w_cond_f rfl ?_
    refine w_exit ?_
    refine e_seq_exit ?_
    refine e_loop_exit ?_
    refine e_blk_hit ?_
    refine e_seq ?_
    refine w_seq ?_
    refine w_seq ?_
    obtain rfl : i = l.length := by omega
    refine w_region ?_
    refine o_y (y_move rfl) rfl rfl ?_
    refine o_y (y_lss rfl rfl) rfl rfl ?_
    refine wl_splitp (t := 55) rfl (fun h10_1 => ?_) (fun h10_1 => ?_)
    · skip
      refine wl_nil ?_
      refine e_seq ?_
      refine w_cond_t rfl ?_
      refine w_seq ?_
      refine w_region ?_
      refine o_y (y_build rfl (bu_34)) rfl rfl ?_
      refine o_store ty_34 rfl rfl rfl .z rfl rfl rfl rfl ?_
      refine o_y (y_assign rfl) rfl rfl ?_
      refine wl_nil ?_
      refine e_seq ?_
      refine w_ret ?_
      refine e_seq_ret ?_
      refine e_rsr (rs := [.cell 4 34, .tmp 5]) rfl (rs_cells 0 ty_34 rfl rfl rfl rfl (rs_tmp rfl rs_nil)) rfl (fun w hw => ?_)
      exact ⟨⟨none, spec_none hI.2 h10_1⟩, rfl, hw.base, (hw.weak (List.nil_sublist _) (fun s hs => hs)).toNews⟩
    · skip
      refine wl_nil ?_
      refine e_seq ?_
      refine w_cond_f rfl ?_
      refine w_skip ?_
      refine e_seq ?_
      refine w_seq ?_
      refine w_region ?_
      refine o_y (y_move rfl) rfl rfl ?_
      refine o_y (y_nilCheck rfl) rfl rfl ?_
      refine o_y (y_field fa_116_0 rfl) rfl rfl ?_
      refine o_y (y_field fa_24_1 rfl) rfl rfl ?_
      refine o_y (y_loadSo 0 ty_22 rfl rfl rfl) rfl rfl ?_
      refine o_y (y_move rfl) rfl rfl ?_
      refine o_y (y_ixm (k := (bestI b0).toNat) Tryz.underlying22 ty_34 rfl rfl (rs_S 1 rfl) (by omega) (spec_best hI.2 h10_1).1) rfl rfl ?_
      refine o_y (y_ldsm0 enc_le le0 ty_34 rfl (rs_S 1 rfl) (spec_best hI.2 h10_1).1 rfl rfl rfl) rfl rfl ?_
      refine o_store ty_34 rfl rfl rfl .z rfl rfl rfl rfl ?_
      refine o_y (y_assign rfl) rfl rfl ?_
      refine wl_nil ?_
      refine e_seq ?_
      refine w_ret ?_
      refine e_rsr (rs := [.cell 4 34, .tmp 5]) rfl (rs_cells 0 ty_34 rfl rfl rfl rfl (rs_tmp rfl rs_nil)) rfl (fun w hw => ?_)
      exact ⟨⟨some (l.getD (bestI b0).toNat le0), (spec_best hI.2 h10_1).2⟩, rfl, hw.base, (hw.weak (List.nil_sublist _) (fun s hs => hs)).toNews⟩
end Go.Proofs.YtckfjfnkombelaaGreat
