/- search: joins, checks, candidates -/
import Derived.Test.YtckfjfnkombelaaGreatCm
import Derived.Test.YtckfjfnkombelaaGreatPe
import Derived.Test.YtckfjfnkombelaaGreatLo
namespace Go.Proofs.YtckfjfnkombelaaGreat
open Go.RowKit Go.Shelf
set_option linter.unusedVariables false
set_option linter.unusedSimpArgs false

theorem ent_105 : Enters Tryz.prog 105 := enters_of Tryz.func105 (by kernel_rfl) rfl
theorem ent_117 : Enters Tryz.prog 117 := enters_of Tryz.func117 (by kernel_rfl) rfl
theorem ent_66 : Enters Tryz.prog 66 := enters_of Tryz.func66 (by kernel_rfl) rfl
theorem ent_88 : Enters Tryz.prog 88 := enters_of Tryz.func88 (by kernel_rfl) rfl
theorem fa_82_0 : FA Tryz.prog 82 0 0 := fun b o w => by kernel_rfl
theorem fa_82_1 : FA Tryz.prog 82 1 1 := fun b o w => by kernel_rfl
theorem ty_40 : TyI Tryz.prog 40 false 1 8 (.int .i64 0) := TyI.mk' (by kernel_rfl) (fun _ => by kernel_rfl)
theorem ty_59 : TyI Tryz.prog 59 false 1 24 (.slice none 0 0) := TyI.mk' (by kernel_rfl) (fun _ => by kernel_rfl)


def srC (s : Sr) (A : Option Addr) (c : Nat) : List Value := [.int .i64 s.ndots, .slice A s.doms.length c]


theorem c_Index_n (l : List Str) (v : Str) (A : Option Addr) (c : Nat) (hl : l.length ≤ 1000000000000) : RC Tryz.prog 117 #[.slice A l.length c, .string (ba v)] [Ch.rd A 1 encs l] (α := {k : Int // 0 ≤ k ↔ v ∈ l}) (fun o => .int .i64 o.1) (fun o => []) := by
  refine rc_of_W (args := [.slice A l.length c, .string (ba v)]) 19 Tryz.func117 rfl rfl rfl (fun w0 => ?_)
  refine w_seq ?_
  refine w_region ?_
  refine o_y (y_assign rfl) rfl rfl ?_
  refine wl_nil ?_
  refine e_seq ?_
  refine w_seq ?_
  refine w_seq ?_
  refine w_region ?_
  refine o_y (y_move rfl) rfl rfl ?_
  refine o_y (y_lenl Tryz.underlying59 rfl) rfl rfl ?_
  refine o_y (y_move rfl) rfl rfl ?_
  refine wl_nil ?_
  refine e_seq ?_
  refine w_block ?_
  refine w_loop0 (σ := Nat) [4, 5, 8, 9, 10, 11, 12, 13, 14, 15, 16, 17, 18] (fun k => k ≤ l.length ∧ ∀ i, i < k → l.getD i [] ≠ v) (fun k => l.length - k) (fun k => [(8, .int .i64 k)]) (0) ?_ ⟨rfl, trivial⟩ (fun k hI => ?_)
  · exact ⟨Nat.zero_le _, nofun⟩
  refine w_seq ?_
  refine w_region ?_
  refine o_y (y_lss rfl rfl) rfl rfl ?_
  refine wl_splitp (t := 9) rfl (fun h2_0 => ?_) (fun h2_0 => ?_)
  · skip
    refine wl_nil ?_
    refine e_seq ?_
    refine w_seq ?_
    refine w_cond_t rfl ?_
    refine w_skip ?_
    refine e_seq ?_
    refine w_seq ?_
    refine w_block ?_
    refine w_seq ?_
    refine w_region ?_
    refine o_y (y_move rfl) rfl rfl ?_
    refine o_y (y_assign rfl) rfl rfl ?_
    refine wl_nil ?_
    refine e_seq ?_
    refine w_seq ?_
    refine w_region ?_
    refine o_y (y_move rfl) rfl rfl ?_
    refine o_y (y_move rfl) rfl rfl ?_
    refine o_y (y_move rfl) rfl rfl ?_
    refine o_y (y_ixm  Tryz.underlying59 ty_26 rfl rfl (rs_S 0 rfl) rfl (by omega)) rfl rfl ?_
    refine o_y (y_ldm0 enc_s ([] : Str) ty_26 rfl (rs_S 0 rfl) (by omega) rfl rfl) rfl rfl ?_
    refine o_y (y_eqls rfl rfl) rfl rfl ?_
    refine wl_splitp (t := 16) rfl (fun h4_5 => ?_) (fun h4_5 => ?_)
    · skip
      refine wl_nil ?_
      refine e_seq ?_
      refine w_cond_t rfl ?_
      refine w_seq ?_
      refine w_region ?_
      refine o_y (y_move rfl) rfl rfl ?_
      refine o_y (y_assign rfl) rfl rfl ?_
      refine wl_nil ?_
      refine e_seq ?_
      refine w_ret ?_
      refine e_blk_ret ?_
      refine e_seq_ret ?_
      refine e_loop_ret ?_
      refine e_blk_ret ?_
      refine e_seq_ret ?_
      refine e_ret (ts := [4]) rfl rfl rfl (fun w hw => ?_)
      have hp : (0 : Int) ≤ (k : Int) ↔ v ∈ l := ⟨fun _ => by rw [h4_5]; exact mem_getD (by omega), fun _ => by omega⟩
      exact ⟨⟨(k : Int), hp⟩, rfl, hw.base, (hw.weak (List.nil_sublist _) (fun s hs => hs)).toNews⟩
    · skip
      refine wl_nil ?_
      refine e_seq ?_
      refine w_cond_f rfl ?_
      refine w_skip ?_
      refine e_blk ?_
      refine e_seq ?_
      refine w_region ?_
      refine o_y (y_addi rfl rfl (by omega) (by omega)) rfl rfl ?_
      refine o_y (y_move rfl) rfl rfl ?_
      refine wl_nil ?_
      refine e_back (k + 1) ?_ ?_ ⟨rfl, trivial⟩ (by repeat (first | exact trivial | refine ⟨rfl, ?_⟩)) (fun w h => h)
      · exact ⟨by omega, all_succ hI.2 (fun h => h4_5 h.symm)⟩
      · omega
  · skip
    refine wl_nil ?_
    refine e_seq ?_
    refine w_seq ?_
    refine w_cond_f rfl ?_
    refine w_exit ?_
    refine e_seq_exit ?_
    refine e_loop_exit ?_
    refine e_blk_hit ?_
    refine e_seq ?_
    refine w_seq ?_
    refine w_region ?_
    refine o_y (y_assign rfl) rfl rfl ?_
    refine wl_nil ?_
    refine e_seq ?_
    refine w_ret ?_
    refine e_ret (ts := [4]) rfl rfl rfl (fun w hw => ?_)
    have hp : (0 : Int) ≤ -1 ↔ v ∈ l := ⟨fun h => by omega, fun h => by
      obtain ⟨i, hi, e⟩ := List.mem_iff_getElem.1 h
      exact absurd (by rw [List.getD_eq_getElem?_getD, List.getElem?_eq_getElem hi]; exact e) (hI.2 i (by omega))⟩
    exact ⟨⟨-1, hp⟩, rfl, hw.base, (hw.weak (List.nil_sublist _) (fun s hs => hs)).toNews⟩

theorem c_Contains_n (l : List Str) (v : Str) (A : Option Addr) (c : Nat) (hl : l.length ≤ 1000000000000) : RC Tryz.prog 88 #[.slice A l.length c, .string (ba v)] [Ch.rd A 1 encs l] (α := Unit) (fun _ => .bool (decide (v ∈ l))) (fun _ => []) := by
  refine rc_of_W (args := [.slice A l.length c, .string (ba v)]) 9 Tryz.func88 rfl rfl rfl (fun w0 => ?_)
  refine w_seq ?_
  refine w_region ?_
  refine o_y (y_assign rfl) rfl rfl ?_
  refine wl_nil ?_
  refine e_seq ?_
  refine w_seq ?_
  refine w_region ?_
  refine o_y (y_move rfl) rfl rfl ?_
  refine o_y (y_move rfl) rfl rfl ?_
  refine o_callr0 rfl ent_117 rfl (c_Index_n _ _ _ _ (by omega)) (fun w hw => (rd_cons (rd_S 0 rfl hw) rd_nil)) (fun ⟨k0, hk0⟩ => ?_)
  refine o_y (y_geq rfl rfl) rfl rfl ?_
  refine o_y (y_assign rfl) rfl rfl ?_
  refine wl_nil ?_
  refine e_seq ?_
  refine w_ret ?_
  refine e_ret (ts := [4]) rfl rfl rfl (fun w hw => ?_)
  refine ⟨(), ?_, hw.base, (hw.weak (List.nil_sublist _) (fun s hs => hs)).toNews⟩
  show Ending.returned (.bool _) = _
  congr 2
  rw [decide_eq_decide]
  assumption

theorem c_search_Check (s : Sr) (A : Option Addr) (c : Nat) : RC Tryz.prog 43 #[.agg (srC s A c).toArray] [Ch.rd A 1 encs s.doms] (α := Unit) (fun _ => .int .i64 (srCk s)) (fun _ => []) := by
  refine rc_of_W (args := [.agg (srC s A c).toArray]) 36 Tryz.func43 rfl rfl rfl (fun w0 => ?_)
  refine w_seq ?_
  refine w_region ?_
  refine o_box rfl rfl rfl (fun b1 => ?_)
  refine o_y (y_assign rfl) rfl rfl ?_
  refine wl_nil ?_
  refine e_seq ?_
  refine w_seq ?_
  refine w_seq ?_
  refine w_region ?_
  refine o_y (y_field fa_82_1 rfl) rfl rfl ?_
  refine o_y (y_loadr 0 ty_59 rfl rfl rfl) rfl rfl ?_
  refine o_y (y_lenl Tryz.underlying59 rfl) rfl rfl ?_
  refine o_y (y_gtr rfl rfl) rfl rfl ?_
  refine wl_splitp (t := 9) rfl (fun h1_3 => ?_) (fun h1_3 => ?_)
  · skip
    refine wl_nil ?_
    refine e_seq ?_
    refine w_cond_t rfl ?_
    refine w_seq ?_
    refine w_region ?_
    refine o_y (y_assign rfl) rfl rfl ?_
    refine wl_nil ?_
    refine e_seq ?_
    refine w_ret ?_
    refine e_seq_ret ?_
    refine e_ret (ts := [2]) rfl rfl rfl (fun w hw => ?_)
    refine ⟨(), ?_, hw.base, (hw.weak (List.nil_sublist _) (fun s hs => hs)).toNews⟩
    show Ending.returned (.int _ _) = _
    congr 2
    first
      | (rw [srCk, if_pos (by omega)]
         done)
      | (rw [srCk, if_neg (by omega), if_pos (by omega)]
         exact hd1.symm)
      | (rw [srCk, if_neg (by omega), if_neg (by omega), if_neg (fun q => q.elim (fun q => of_decide_eq_false h10_2 q) (fun q => by omega))]
         done)
      | (rw [srCk, if_neg (by omega), if_neg (by omega), if_pos (by first | exact .inl (of_decide_eq_true h10_2) | exact .inr (.inl (by omega)) | exact .inr (.inr (by omega)))]
         done)
      | (trace_state; fail)
  · skip
    refine wl_nil ?_
    refine e_seq ?_
    refine w_cond_f rfl ?_
    refine w_skip ?_
    refine e_seq ?_
    refine w_seq ?_
    refine w_seq ?_
    refine w_region ?_
    refine o_y (y_field fa_82_1 rfl) rfl rfl ?_
    refine o_y (y_loadr 0 ty_59 rfl rfl rfl) rfl rfl ?_
    refine o_y (y_lenl Tryz.underlying59 rfl) rfl rfl ?_
    refine o_y (y_move rfl) rfl rfl ?_
    refine wl_nil ?_
    refine e_seq ?_
    refine w_block ?_
    refine w_loop0 (σ := Nat) [2, 4, 5, 13, 14, 15, 16, 17, 18, 19, 20, 21, 22] (fun k => k ≤ s.doms.length ∧ domsCk s.doms = domsCk (s.doms.drop k)) (fun k => s.doms.length - k) (fun k => [(13, .int .i64 k)]) (0) ?_ ⟨rfl, trivial⟩ (fun k hI => ?_)
    · exact ⟨Nat.zero_le _, rfl⟩
    refine w_seq ?_
    refine w_region ?_
    refine o_y (y_lss rfl rfl) rfl rfl ?_
    refine wl_splitp (t := 14) rfl (fun h4_0 => ?_) (fun h4_0 => ?_)
    · skip
      refine wl_nil ?_
      refine e_seq ?_
      refine w_seq ?_
      refine w_cond_t rfl ?_
      refine w_skip ?_
      refine e_seq ?_
      refine w_seq ?_
      refine w_block ?_
      refine w_seq ?_
      refine w_region ?_
      refine o_y (y_ixm  Tryz.underlying59 ty_26 rfl rfl (rs_S 0 rfl) rfl (by omega)) rfl rfl ?_
      refine o_y (y_ldm0 enc_s ([] : Str) ty_26 rfl (rs_S 0 rfl) (by omega) rfl rfl) rfl rfl ?_
      refine o_y (y_assign rfl) rfl rfl ?_
      refine wl_nil ?_
      refine e_seq ?_
      refine w_seq ?_
      refine w_region ?_
      refine o_y (y_move rfl) rfl rfl ?_
      refine o_callp rfl ent_56 (c_name_Check _) rfl ?_
      refine o_y (y_assign rfl) rfl rfl ?_
      refine wl_nil ?_
      refine e_seq ?_
      refine w_seq ?_
      refine w_region ?_
      refine o_y (y_move rfl) rfl rfl ?_
      refine o_y (y_neq rfl rfl) rfl rfl ?_
      refine wl_splitp (t := 20) rfl (fun h7_1 => ?_) (fun h7_1 => ?_)
      · skip
        refine wl_nil ?_
        refine e_seq ?_
        refine w_cond_t rfl ?_
        refine w_seq ?_
        have hk : k < s.doms.length := by omega
        have hdk := drop_getD s.doms [] k hk
        have hd1 : domsCk s.doms = nameCk (s.doms.getD k []) := by rw [hI.2, hdk, domsCk, if_pos h7_1]
        refine w_region ?_
        refine o_y (y_move rfl) rfl rfl ?_
        refine o_y (y_assign rfl) rfl rfl ?_
        refine wl_nil ?_
        refine e_seq ?_
        refine w_ret ?_
        refine e_blk_ret ?_
        refine e_seq_ret ?_
        refine e_loop_ret ?_
        refine e_blk_ret ?_
        refine e_seq_ret ?_
        refine e_ret (ts := [2]) rfl rfl rfl (fun w hw => ?_)
        refine ⟨(), ?_, hw.base, (hw.weak (List.nil_sublist _) (fun s hs => hs)).toNews⟩
        show Ending.returned (.int _ _) = _
        congr 2
        first
          | (rw [srCk, if_pos (by omega)]
             done)
          | (rw [srCk, if_neg (by omega), if_pos (by omega)]
             exact hd1.symm)
          | (rw [srCk, if_neg (by omega), if_neg (by omega), if_neg (fun q => q.elim (fun q => of_decide_eq_false h10_2 q) (fun q => by omega))]
             done)
          | (rw [srCk, if_neg (by omega), if_neg (by omega), if_pos (by first | exact .inl (of_decide_eq_true h10_2) | exact .inr (.inl (by omega)) | exact .inr (.inr (by omega)))]
             done)
          | (trace_state; fail)
      · skip
        refine wl_nil ?_
        refine e_seq ?_
        refine w_cond_f rfl ?_
        refine w_skip ?_
        refine e_blk ?_
        refine e_seq ?_
        refine w_region ?_
        refine o_y (y_addi rfl rfl (by omega) (by omega)) rfl rfl ?_
        refine o_y (y_move rfl) rfl rfl ?_
        refine wl_nil ?_
        have hk : k < s.doms.length := by omega
        have hdk := drop_getD s.doms [] k hk
        refine e_back (k + 1) ?_ ?_ ⟨rfl, trivial⟩ (by repeat (first | exact trivial | refine ⟨rfl, ?_⟩)) (fun w h => h)
        · exact ⟨by omega, by rw [hI.2, hdk, domsCk, if_neg (by omega)]⟩
        · omega
    · skip
      refine wl_nil ?_
      refine e_seq ?_
      refine w_seq ?_
      refine w_cond_f rfl ?_
      refine w_exit ?_
      refine e_seq_exit ?_
      refine e_loop_exit ?_
      refine e_blk_hit ?_
      refine e_seq ?_
      refine w_seq ?_
      refine w_seq ?_
      have hd0 : domsCk s.doms = 0 := by rw [hI.2, List.drop_of_length_le (by omega)]; rfl
      refine w_region ?_
      refine o_y (y_field fa_82_1 rfl) rfl rfl ?_
      refine o_y (y_loadr 0 ty_59 rfl rfl rfl) rfl rfl ?_
      refine o_callq rfl ent_88 rfl (c_Contains_n _ _ _ _ (by omega)) (fun w hw => (rd_cons (rd_S 0 rfl hw) rd_nil)) ?_
      refine wl_splitb (t := 25) rfl (fun h10_2 => ?_) (fun h10_2 => ?_)
      · skip
        refine o_y (y_move rfl) rfl rfl ?_
        refine wl_gno rfl rfl rfl rfl ?_
        refine wl_gno rfl rfl rfl rfl ?_
        refine wl_gno rfl rfl rfl rfl ?_
        refine o_y (y_pick_t rfl rfl) rfl rfl ?_
        refine o_y (y_move rfl) rfl rfl ?_
        refine wl_gno rfl rfl rfl rfl ?_
        refine wl_gno rfl rfl rfl rfl ?_
        refine wl_gno rfl rfl rfl rfl ?_
        refine o_y (y_pick_t rfl rfl) rfl rfl ?_
        refine wl_nil ?_
        refine e_seq ?_
        refine w_cond_t rfl ?_
        refine w_seq ?_
        refine w_region ?_
        refine o_y (y_assign rfl) rfl rfl ?_
        refine wl_nil ?_
        refine e_seq ?_
        refine w_ret ?_
        refine e_seq_ret ?_
        refine e_ret (ts := [2]) rfl rfl rfl (fun w hw => ?_)
        refine ⟨(), ?_, hw.base, (hw.weak (List.nil_sublist _) (fun s hs => hs)).toNews⟩
        show Ending.returned (.int _ _) = _
        congr 2
        first
          | (rw [srCk, if_pos (by omega)]
             done)
          | (rw [srCk, if_neg (by omega), if_pos (by omega)]
             exact hd1.symm)
          | (rw [srCk, if_neg (by omega), if_neg (by omega), if_neg (fun q => q.elim (fun q => of_decide_eq_false h10_2 q) (fun q => by omega))]
             done)
          | (rw [srCk, if_neg (by omega), if_neg (by omega), if_pos (by first | exact .inl (of_decide_eq_true h10_2) | exact .inr (.inl (by omega)) | exact .inr (.inr (by omega)))]
             done)
          | (trace_state; fail)
      · skip
        refine o_y (y_move rfl) rfl rfl ?_
        refine wl_gyes rfl rfl ?_
        refine o_y (y_field fa_82_0 rfl) rfl rfl ?_
        refine wl_gyes rfl rfl ?_
        refine o_y (y_loadr 0 ty_3 rfl rfl rfl) rfl rfl ?_
        refine wl_gyes rfl rfl ?_
        refine o_y (y_lss rfl rfl) rfl rfl ?_
        refine wl_splitp (t := 29) rfl (fun h10_6 => ?_) (fun h10_6 => ?_)
        · skip
          refine o_y (y_pick_f rfl rfl) rfl rfl ?_
          refine o_y (y_move rfl) rfl rfl ?_
          refine wl_gno rfl rfl rfl rfl ?_
          refine wl_gno rfl rfl rfl rfl ?_
          refine wl_gno rfl rfl rfl rfl ?_
          refine o_y (y_pick_t rfl rfl) rfl rfl ?_
          refine wl_nil ?_
          refine e_seq ?_
          refine w_cond_t rfl ?_
          refine w_seq ?_
          refine w_region ?_
          refine o_y (y_assign rfl) rfl rfl ?_
          refine wl_nil ?_
          refine e_seq ?_
          refine w_ret ?_
          refine e_seq_ret ?_
          refine e_ret (ts := [2]) rfl rfl rfl (fun w hw => ?_)
          refine ⟨(), ?_, hw.base, (hw.weak (List.nil_sublist _) (fun s hs => hs)).toNews⟩
          show Ending.returned (.int _ _) = _
          congr 2
          first
            | (rw [srCk, if_pos (by omega)]
               done)
            | (rw [srCk, if_neg (by omega), if_pos (by omega)]
               exact hd1.symm)
            | (rw [srCk, if_neg (by omega), if_neg (by omega), if_neg (fun q => q.elim (fun q => of_decide_eq_false h10_2 q) (fun q => by omega))]
               done)
            | (rw [srCk, if_neg (by omega), if_neg (by omega), if_pos (by first | exact .inl (of_decide_eq_true h10_2) | exact .inr (.inl (by omega)) | exact .inr (.inr (by omega)))]
               done)
            | (trace_state; fail)
        · skip
          refine o_y (y_pick_f rfl rfl) rfl rfl ?_
          refine o_y (y_move rfl) rfl rfl ?_
          refine wl_gyes rfl rfl ?_
          refine o_y (y_field fa_82_0 rfl) rfl rfl ?_
          refine wl_gyes rfl rfl ?_
          refine o_y (y_loadr 0 ty_3 rfl rfl rfl) rfl rfl ?_
          refine wl_gyes rfl rfl ?_
          refine o_y (y_gtr rfl rfl) rfl rfl ?_
          refine wl_splitp (t := 34) rfl (fun h10_11 => ?_) (fun h10_11 => ?_)
          · skip
            refine o_y (y_pick_f rfl rfl) rfl rfl ?_
            refine wl_nil ?_
            refine e_seq ?_
            refine w_cond_t rfl ?_
            refine w_seq ?_
            refine w_region ?_
            refine o_y (y_assign rfl) rfl rfl ?_
            refine wl_nil ?_
            refine e_seq ?_
            refine w_ret ?_
            refine e_seq_ret ?_
            refine e_ret (ts := [2]) rfl rfl rfl (fun w hw => ?_)
            refine ⟨(), ?_, hw.base, (hw.weak (List.nil_sublist _) (fun s hs => hs)).toNews⟩
            show Ending.returned (.int _ _) = _
            congr 2
            first
              | (rw [srCk, if_pos (by omega)]
                 done)
              | (rw [srCk, if_neg (by omega), if_pos (by omega)]
                 exact hd1.symm)
              | (rw [srCk, if_neg (by omega), if_neg (by omega), if_neg (fun q => q.elim (fun q => of_decide_eq_false h10_2 q) (fun q => by omega))]
                 done)
              | (rw [srCk, if_neg (by omega), if_neg (by omega), if_pos (by first | exact .inl (of_decide_eq_true h10_2) | exact .inr (.inl (by omega)) | exact .inr (.inr (by omega)))]
                 done)
              | (trace_state; fail)
          · skip
            refine o_y (y_pick_f rfl rfl) rfl rfl ?_
            refine wl_nil ?_
            refine e_seq ?_
            refine w_cond_f rfl ?_
            refine w_skip ?_
            refine e_seq ?_
            refine w_seq ?_
            refine w_region ?_
            refine o_y (y_assign rfl) rfl rfl ?_
            refine wl_nil ?_
            refine e_seq ?_
            refine w_ret ?_
            refine e_ret (ts := [2]) rfl rfl rfl (fun w hw => ?_)
            refine ⟨(), ?_, hw.base, (hw.weak (List.nil_sublist _) (fun s hs => hs)).toNews⟩
            show Ending.returned (.int _ _) = _
            congr 2
            first
              | (rw [srCk, if_pos (by omega)]
                 done)
              | (rw [srCk, if_neg (by omega), if_pos (by omega)]
                 exact hd1.symm)
              | (rw [srCk, if_neg (by omega), if_neg (by omega), if_neg (fun q => q.elim (fun q => of_decide_eq_false h10_2 q) (fun q => by omega))]
                 done)
              | (rw [srCk, if_neg (by omega), if_neg (by omega), if_pos (by first | exact .inl (of_decide_eq_true h10_2) | exact .inr (.inl (by omega)) | exact .inr (.inr (by omega)))]
                 done)
              | (trace_state; fail)


/-- The first that is not zero. -/
def orI : List Int → Int
  | [] => 0
  | a :: r => if a ≠ 0 then a else orI r


theorem c_Or (l : List Int) (A : Option Addr) (c : Nat) (hl : l.length ≤ 1000000000000) : RC Tryz.prog 105 #[.slice A l.length c] [Ch.rd A 1 enci l] (α := Unit) (fun _ => .int .i64 (orI l)) (fun _ => []) := by
  refine rc_of_W (args := [.slice A l.length c]) 18 Tryz.func105 rfl rfl rfl (fun w0 => ?_)
  refine w_seq ?_
  refine w_region ?_
  refine o_y (y_assign rfl) rfl rfl ?_
  refine wl_nil ?_
  refine e_seq ?_
  refine w_seq ?_
  refine w_region ?_
  refine o_y (y_assign rfl) rfl rfl ?_
  refine wl_nil ?_
  refine e_seq ?_
  refine w_seq ?_
  refine w_seq ?_
  refine w_region ?_
  refine o_y (y_move rfl) rfl rfl ?_
  refine o_y (y_lenl Tryz.underlying186 rfl) rfl rfl ?_
  refine o_y (y_move rfl) rfl rfl ?_
  refine wl_nil ?_
  refine e_seq ?_
  refine w_block ?_
  refine w_loop0 (σ := Nat) [2, 5, 8, 9, 10, 11, 12, 13, 14, 15, 16] (fun k => k ≤ l.length ∧ orI l = orI (l.drop k)) (fun k => l.length - k) (fun k => [(8, .int .i64 k)]) (0) ?_ ⟨rfl, trivial⟩ (fun k hI => ?_)
  · exact ⟨Nat.zero_le _, rfl⟩
  refine w_seq ?_
  refine w_region ?_
  refine o_y (y_lss rfl rfl) rfl rfl ?_
  refine wl_splitp (t := 9) rfl (fun h3_0 => ?_) (fun h3_0 => ?_)
  · skip
    refine wl_nil ?_
    refine e_seq ?_
    refine w_seq ?_
    refine w_cond_t rfl ?_
    refine w_skip ?_
    refine e_seq ?_
    refine w_seq ?_
    refine w_block ?_
    refine w_seq ?_
    refine w_region ?_
    refine o_y (y_ixm  Tryz.underlying186 ty_40 rfl rfl (rs_S 0 rfl) rfl (by omega)) rfl rfl ?_
    refine o_y (y_ldm0 enc_i (0 : Int) ty_40 rfl (rs_S 0 rfl) (by omega) rfl rfl) rfl rfl ?_
    refine o_y (y_assign rfl) rfl rfl ?_
    refine wl_nil ?_
    refine e_seq ?_
    refine w_seq ?_
    refine w_region ?_
    refine o_y (y_move rfl) rfl rfl ?_
    refine o_y (y_move rfl) rfl rfl ?_
    refine o_y (y_neq rfl rfl) rfl rfl ?_
    refine wl_splitp (t := 14) rfl (fun h5_2 => ?_) (fun h5_2 => ?_)
    · skip
      refine wl_nil ?_
      refine e_seq ?_
      refine w_cond_t rfl ?_
      refine w_seq ?_
      refine w_region ?_
      refine o_y (y_move rfl) rfl rfl ?_
      refine o_y (y_assign rfl) rfl rfl ?_
      refine wl_nil ?_
      refine e_seq ?_
      refine w_ret ?_
      refine e_blk_ret ?_
      refine e_seq_ret ?_
      refine e_loop_ret ?_
      refine e_blk_ret ?_
      refine e_seq_ret ?_
      refine e_ret (ts := [2]) rfl rfl rfl (fun w hw => ?_)
      have hk : k < l.length := by omega
      have hdk := drop_getD l 0 k hk
      exact ⟨(), by rw [hI.2, hdk, orI, if_pos h5_2]; rfl, hw.base, (hw.weak (List.nil_sublist _) (fun s hs => hs)).toNews⟩
    · skip
      refine wl_nil ?_
      refine e_seq ?_
      refine w_cond_f rfl ?_
      refine w_skip ?_
      refine e_blk ?_
      refine e_seq ?_
      refine w_region ?_
      refine o_y (y_addi rfl rfl (by omega) (by omega)) rfl rfl ?_
      refine o_y (y_move rfl) rfl rfl ?_
      refine wl_nil ?_
      have hk : k < l.length := by omega
      have hdk := drop_getD l 0 k hk
      refine e_back (k + 1) ?_ ?_ ⟨rfl, trivial⟩ (by repeat (first | exact trivial | refine ⟨rfl, ?_⟩)) (fun w h => h)
      · exact ⟨by omega, by rw [hI.2, hdk, orI, if_neg h5_2]⟩
      · omega
  · skip
    refine wl_nil ?_
    refine e_seq ?_
    refine w_seq ?_
    refine w_cond_f rfl ?_
    refine w_exit ?_
    refine e_seq_exit ?_
    refine e_loop_exit ?_
    refine e_blk_hit ?_
    refine e_seq ?_
    refine w_seq ?_
    refine w_region ?_
    refine o_y (y_move rfl) rfl rfl ?_
    refine o_y (y_assign rfl) rfl rfl ?_
    refine wl_nil ?_
    refine e_seq ?_
    refine w_ret ?_
    refine e_ret (ts := [2]) rfl rfl rfl (fun w hw => ?_)
    exact ⟨(), by rw [hI.2, List.drop_of_length_le (by omega)]; rfl, hw.base, (hw.weak (List.nil_sublist _) (fun s hs => hs)).toNews⟩


theorem join_bad {a b : Str} (h : joinE a b ≠ 0) : joinN a b = [] := if_neg h
theorem join_good {a b : Str} (h : joinE a b = 0) : joinN a b = a ++ b := if_pos h
theorem or2 (a b : Str) : orI [nameCk a, nameCk b] = if nameCk a ≠ 0 then nameCk a else nameCk b := by
  simp only [orI]
  split
  · rfl
  · split
    · rfl
    · omega
theorem joinE_or {a b : Str} (h : orI [nameCk a, nameCk b] ≠ 0) : joinE a b = orI [nameCk a, nameCk b] := by
  rw [or2] at h ⊢
  unfold joinE
  split
  · rfl
  · rename_i h1
    rw [if_neg h1] at h
    rw [if_pos h]
theorem joinE_len {a b : Str} (h : ¬ orI [nameCk a, nameCk b] ≠ 0) : joinE a b = if 254 < a.length + b.length then 3 else 0 := by
  rw [or2] at h
  unfold joinE
  by_cases h1 : nameCk a ≠ 0
  · rw [if_pos h1] at h; omega
  · rw [if_neg h1] at h
    rw [if_neg h1, if_neg h]


theorem c_name_Join (a b : Str) (ha : a.length ≤ 1000000000000) (hb : b.length ≤ 1000000000000) : RC Tryz.prog 66 #[.string (ba a), .string (ba b)] [] (α := Unit) (fun _ => .tuple #[.string (ba (joinN a b)), .int .i64 (joinE a b)]) (fun _ => []) := by
  refine rc_of_W (args := [.string (ba a), .string (ba b)]) 25 Tryz.func66 rfl rfl rfl (fun w0 => ?_)
  refine w_seq ?_
  refine w_region ?_
  refine o_y (y_assign rfl) rfl rfl ?_
  refine o_y (y_assign rfl) rfl rfl ?_
  refine wl_nil ?_
  refine e_seq ?_
  refine w_seq ?_
  refine w_seq ?_
  refine w_region ?_
  refine o_y (y_move rfl) rfl rfl ?_
  refine o_callp rfl ent_56 (c_name_Check _) rfl ?_
  refine o_y (y_move rfl) rfl rfl ?_
  refine o_callp rfl ent_56 (c_name_Check _) rfl ?_
  refine o_bsl (vs := [_, _]) ([nameCk a, nameCk b] : List (Int)) enc_i Tryz.underlying186 ty_40 rfl rfl rfl rfl rfl rfl (fun As1 => ?_)
  refine o_callq rfl ent_105 rfl (c_Or _ _ _ (by simp)) (fun w hw => (rd_cons (rd_Ls 0 rfl hw) rd_nil)) ?_
  refine o_y (y_assign rfl) rfl rfl ?_
  refine wl_nil ?_
  refine e_seq ?_
  refine w_seq ?_
  refine w_region ?_
  refine o_y (y_move rfl) rfl rfl ?_
  refine o_y (y_neq rfl rfl) rfl rfl ?_
  refine wl_splitp (t := 14) rfl (fun h2_1 => ?_) (fun h2_1 => ?_)
  · skip
    refine wl_nil ?_
    refine e_seq ?_
    refine w_cond_t rfl ?_
    refine w_seq ?_
    refine w_region ?_
    refine o_y (y_move rfl) rfl rfl ?_
    refine o_y (y_assign rfl) rfl rfl ?_
    refine o_y (y_assign rfl) rfl rfl ?_
    refine wl_nil ?_
    refine e_seq ?_
    refine w_ret ?_
    refine e_seq_ret ?_
    refine e_ret (ts := [4, 5]) rfl rfl rfl (fun w hw => ?_)
    first
      | (have hj := joinE_or (a := a) (b := b) h2_1
         have hn := join_bad (a := a) (b := b) (by rw [hj]; exact h2_1)
         exact ⟨(), by rw [hj, hn]; rfl, hw.base, (hw.weak (List.nil_sublist _) (fun s hs => hs)).toNews⟩)
      | (have hj : joinE a b = 3 := by rw [joinE_len h2_1, if_pos (by omega)]
         have hn := join_bad (a := a) (b := b) (by omega)
         exact ⟨(), by rw [hj, hn]; rfl, hw.base, (hw.weak (List.nil_sublist _) (fun s hs => hs)).toNews⟩)
      | (have hj : joinE a b = 0 := by rw [joinE_len h2_1, if_neg (by omega)]
         have hn := join_good (a := a) (b := b) (by omega)
         exact ⟨(), by rw [hj, hn]; rfl, hw.base, (hw.weak (List.nil_sublist _) (fun s hs => hs)).toNews⟩)
      | (trace_state; fail)
  · skip
    refine wl_nil ?_
    refine e_seq ?_
    refine w_cond_f rfl ?_
    refine w_skip ?_
    refine e_seq ?_
    refine w_seq ?_
    refine w_seq ?_
    refine w_region ?_
    refine o_y (y_move rfl) rfl rfl ?_
    refine o_y (y_lens Tryz.underlying26 rfl) rfl rfl ?_
    refine o_y (y_move rfl) rfl rfl ?_
    refine o_y (y_lens Tryz.underlying26 rfl) rfl rfl ?_
    refine o_y (y_addi rfl rfl (by omega) (by omega)) rfl rfl ?_
    refine o_y (y_gtr rfl rfl) rfl rfl ?_
    refine wl_splitp (t := 21) rfl (fun h4_5 => ?_) (fun h4_5 => ?_)
    · skip
      refine wl_nil ?_
      refine e_seq ?_
      refine w_cond_t rfl ?_
      refine w_seq ?_
      refine w_region ?_
      refine o_y (y_assign rfl) rfl rfl ?_
      refine o_y (y_assign rfl) rfl rfl ?_
      refine wl_nil ?_
      refine e_seq ?_
      refine w_ret ?_
      refine e_seq_ret ?_
      refine e_ret (ts := [4, 5]) rfl rfl rfl (fun w hw => ?_)
      first
        | (have hj := joinE_or (a := a) (b := b) h2_1
           have hn := join_bad (a := a) (b := b) (by rw [hj]; exact h2_1)
           exact ⟨(), by rw [hj, hn]; rfl, hw.base, (hw.weak (List.nil_sublist _) (fun s hs => hs)).toNews⟩)
        | (have hj : joinE a b = 3 := by rw [joinE_len h2_1, if_pos (by omega)]
           have hn := join_bad (a := a) (b := b) (by omega)
           exact ⟨(), by rw [hj, hn]; rfl, hw.base, (hw.weak (List.nil_sublist _) (fun s hs => hs)).toNews⟩)
        | (have hj : joinE a b = 0 := by rw [joinE_len h2_1, if_neg (by omega)]
           have hn := join_good (a := a) (b := b) (by omega)
           exact ⟨(), by rw [hj, hn]; rfl, hw.base, (hw.weak (List.nil_sublist _) (fun s hs => hs)).toNews⟩)
        | (trace_state; fail)
    · skip
      refine wl_nil ?_
      refine e_seq ?_
      refine w_cond_f rfl ?_
      refine w_skip ?_
      refine e_seq ?_
      refine w_seq ?_
      refine w_region ?_
      refine o_y (y_move rfl) rfl rfl ?_
      refine o_y (y_move rfl) rfl rfl ?_
      refine o_y (y_adds rfl rfl (by omega)) rfl rfl ?_
      refine o_y (y_assign rfl) rfl rfl ?_
      refine o_y (y_assign rfl) rfl rfl ?_
      refine wl_nil ?_
      refine e_seq ?_
      refine w_ret ?_
      refine e_ret (ts := [4, 5]) rfl rfl rfl (fun w hw => ?_)
      first
        | (have hj := joinE_or (a := a) (b := b) h2_1
           have hn := join_bad (a := a) (b := b) (by rw [hj]; exact h2_1)
           exact ⟨(), by rw [hj, hn]; rfl, hw.base, (hw.weak (List.nil_sublist _) (fun s hs => hs)).toNews⟩)
        | (have hj : joinE a b = 3 := by rw [joinE_len h2_1, if_pos (by omega)]
           have hn := join_bad (a := a) (b := b) (by omega)
           exact ⟨(), by rw [hj, hn]; rfl, hw.base, (hw.weak (List.nil_sublist _) (fun s hs => hs)).toNews⟩)
        | (have hj : joinE a b = 0 := by rw [joinE_len h2_1, if_neg (by omega)]
           have hn := join_good (a := a) (b := b) (by omega)
           exact ⟨(), by rw [hj, hn]; rfl, hw.base, (hw.weak (List.nil_sublist _) (fun s hs => hs)).toNews⟩)
        | (trace_state; fail)


theorem p_name_Join (a b : Str) (ha : a.length ≤ 1000000000000) (hb : b.length ≤ 1000000000000) : Pure Tryz.prog 66 #[.string (ba a), .string (ba b)] (.tuple #[.string (ba (joinN a b)), .int .i64 (joinE a b)]) := rc_pure (c_name_Join a b ha hb)


theorem c_ref02_Join (a b : Str) (ha : a.length ≤ 1000000000000) (hb : b.length ≤ 1000000000000) : Pure Tryz.prog 87 #[.string (ba a), .string (ba b)] (.tuple #[.string (ba (joinN a b)), .int .i64 (joinE a b)]) := by
  intro w0
  refine calls_of_W (ok0 := no) (S := []) (args := [.string (ba a), .string (ba b)]) 29 Tryz.func87 rfl rfl rfl (by simp) (by simp) ?_
  refine w_seq ?_
  refine w_region ?_
  refine o_y (y_assign rfl) rfl rfl ?_
  refine o_y (y_assign rfl) rfl rfl ?_
  refine wl_nil ?_
  refine e_seq ?_
  refine w_seq ?_
  refine w_region ?_
  refine o_y (y_move rfl) rfl rfl ?_
  refine o_callp rfl ent_80 (c_ref02_Check _) rfl ?_
  refine o_y (y_assign rfl) rfl rfl ?_
  refine wl_nil ?_
  refine e_seq ?_
  refine w_seq ?_
  refine w_seq ?_
  refine w_region ?_
  refine o_y (y_move rfl) rfl rfl ?_
  refine o_y (y_eql rfl rfl) rfl rfl ?_
  refine wl_splitp (t := 10) rfl (fun h2_1 => ?_) (fun h2_1 => ?_)
  · skip
    refine wl_nil ?_
    refine e_seq ?_
    refine w_cond_t rfl ?_
    refine w_region ?_
    refine o_y (y_move rfl) rfl rfl ?_
    refine o_callp rfl ent_80 (c_ref02_Check _) rfl ?_
    refine o_y (y_assign rfl) rfl rfl ?_
    refine wl_nil ?_
    refine e_seq ?_
    refine w_seq ?_
    refine w_seq ?_
    refine w_region ?_
    refine o_y (y_move rfl) rfl rfl ?_
    refine o_y (y_eql rfl rfl) rfl rfl ?_
    refine wl_splitp (t := 14) rfl (fun h4_1 => ?_) (fun h4_1 => ?_)
    · skip
      refine o_y (y_move rfl) rfl rfl ?_
      refine wl_gyes rfl rfl ?_
      refine o_y (y_move rfl) rfl rfl ?_
      refine wl_gyes rfl rfl ?_
      refine o_y (y_lens Tryz.underlying26 rfl) rfl rfl ?_
      refine wl_gyes rfl rfl ?_
      refine o_y (y_move rfl) rfl rfl ?_
      refine wl_gyes rfl rfl ?_
      refine o_y (y_lens Tryz.underlying26 rfl) rfl rfl ?_
      refine wl_gyes rfl rfl ?_
      refine o_y (y_addi rfl rfl (by omega) (by omega)) rfl rfl ?_
      refine wl_gyes rfl rfl ?_
      refine o_y (y_gtr rfl rfl) rfl rfl ?_
      refine wl_splitp (t := 21) rfl (fun h4_8 => ?_) (fun h4_8 => ?_)
      · skip
        refine o_y (y_pick_t rfl rfl) rfl rfl ?_
        refine wl_nil ?_
        refine e_seq ?_
        refine w_cond_t rfl ?_
        refine w_region ?_
        refine o_y (y_assign rfl) rfl rfl ?_
        refine wl_nil ?_
        refine e_seq ?_
        refine w_seq ?_
        refine w_seq ?_
        refine w_region ?_
        refine o_y (y_move rfl) rfl rfl ?_
        refine o_y (y_neq rfl rfl) rfl rfl ?_
        refine wl_splitp (t := 24) rfl (fun h6_1 => ?_) (fun h6_1 => ?_)
        · skip
          refine wl_nil ?_
          refine e_seq ?_
          refine w_cond_t rfl ?_
          refine w_seq ?_
          refine w_region ?_
          refine o_y (y_move rfl) rfl rfl ?_
          refine o_y (y_assign rfl) rfl rfl ?_
          refine o_y (y_assign rfl) rfl rfl ?_
          refine wl_nil ?_
          refine e_seq ?_
          refine w_ret ?_
          refine e_seq_ret ?_
          refine e_ret (ts := [4, 5]) rfl rfl rfl (fun w hw => ?_)
          refine ⟨?_, hw.base⟩
          first
            | (have hj : joinE a b = 0 := joinE_zero.2 ⟨by omega, by omega, by omega⟩
               rw [hj, join_good hj]; rfl)
            | (have hj : joinE a b = nameCk a := by rw [joinE, if_pos (by omega)]
               rw [hj, join_bad (by omega)]; rfl)
            | (have hj : joinE a b = nameCk b := by rw [joinE, if_neg (by omega), if_pos (by omega)]
               rw [hj, join_bad (by omega)]; rfl)
            | (have hj : joinE a b = 3 := by rw [joinE, if_neg (by omega), if_neg (by omega), if_pos (by omega)]
               rw [hj, join_bad (by omega)]; rfl)
            | (exfalso; omega)
            | (trace_state; fail)
        · skip
          refine wl_nil ?_
          refine e_seq ?_
          refine w_cond_f rfl ?_
          refine w_skip ?_
          refine e_seq ?_
          refine w_seq ?_
          refine w_region ?_
          refine o_y (y_move rfl) rfl rfl ?_
          refine o_y (y_move rfl) rfl rfl ?_
          refine o_y (y_adds rfl rfl (by omega)) rfl rfl ?_
          refine o_y (y_assign rfl) rfl rfl ?_
          refine o_y (y_assign rfl) rfl rfl ?_
          refine wl_nil ?_
          refine e_seq ?_
          refine w_ret ?_
          refine e_ret (ts := [4, 5]) rfl rfl rfl (fun w hw => ?_)
          refine ⟨?_, hw.base⟩
          first
            | (have hj : joinE a b = 0 := joinE_zero.2 ⟨by omega, by omega, by omega⟩
               rw [hj, join_good hj]; rfl)
            | (have hj : joinE a b = nameCk a := by rw [joinE, if_pos (by omega)]
               rw [hj, join_bad (by omega)]; rfl)
            | (have hj : joinE a b = nameCk b := by rw [joinE, if_neg (by omega), if_pos (by omega)]
               rw [hj, join_bad (by omega)]; rfl)
            | (have hj : joinE a b = 3 := by rw [joinE, if_neg (by omega), if_neg (by omega), if_pos (by omega)]
               rw [hj, join_bad (by omega)]; rfl)
            | (exfalso; omega)
            | (trace_state; fail)
      · skip
        refine o_y (y_pick_t rfl rfl) rfl rfl ?_
        refine wl_nil ?_
        refine e_seq ?_
        refine w_cond_f rfl ?_
        refine w_skip ?_
        refine e_seq ?_
        refine w_seq ?_
        refine w_seq ?_
        refine w_region ?_
        refine o_y (y_move rfl) rfl rfl ?_
        refine o_y (y_neq rfl rfl) rfl rfl ?_
        refine wl_splitp (t := 24) rfl (fun h6_1 => ?_) (fun h6_1 => ?_)
        · skip
          refine wl_nil ?_
          refine e_seq ?_
          refine w_cond_t rfl ?_
          refine w_seq ?_
          refine w_region ?_
          refine o_y (y_move rfl) rfl rfl ?_
          refine o_y (y_assign rfl) rfl rfl ?_
          refine o_y (y_assign rfl) rfl rfl ?_
          refine wl_nil ?_
          refine e_seq ?_
          refine w_ret ?_
          refine e_seq_ret ?_
          refine e_ret (ts := [4, 5]) rfl rfl rfl (fun w hw => ?_)
          refine ⟨?_, hw.base⟩
          first
            | (have hj : joinE a b = 0 := joinE_zero.2 ⟨by omega, by omega, by omega⟩
               rw [hj, join_good hj]; rfl)
            | (have hj : joinE a b = nameCk a := by rw [joinE, if_pos (by omega)]
               rw [hj, join_bad (by omega)]; rfl)
            | (have hj : joinE a b = nameCk b := by rw [joinE, if_neg (by omega), if_pos (by omega)]
               rw [hj, join_bad (by omega)]; rfl)
            | (have hj : joinE a b = 3 := by rw [joinE, if_neg (by omega), if_neg (by omega), if_pos (by omega)]
               rw [hj, join_bad (by omega)]; rfl)
            | (exfalso; omega)
            | (trace_state; fail)
        · skip
          refine wl_nil ?_
          refine e_seq ?_
          refine w_cond_f rfl ?_
          refine w_skip ?_
          refine e_seq ?_
          refine w_seq ?_
          refine w_region ?_
          refine o_y (y_move rfl) rfl rfl ?_
          refine o_y (y_move rfl) rfl rfl ?_
          refine o_y (y_adds rfl rfl (by omega)) rfl rfl ?_
          refine o_y (y_assign rfl) rfl rfl ?_
          refine o_y (y_assign rfl) rfl rfl ?_
          refine wl_nil ?_
          refine e_seq ?_
          refine w_ret ?_
          refine e_ret (ts := [4, 5]) rfl rfl rfl (fun w hw => ?_)
          refine ⟨?_, hw.base⟩
          first
            | (have hj : joinE a b = 0 := joinE_zero.2 ⟨by omega, by omega, by omega⟩
               rw [hj, join_good hj]; rfl)
            | (have hj : joinE a b = nameCk a := by rw [joinE, if_pos (by omega)]
               rw [hj, join_bad (by omega)]; rfl)
            | (have hj : joinE a b = nameCk b := by rw [joinE, if_neg (by omega), if_pos (by omega)]
               rw [hj, join_bad (by omega)]; rfl)
            | (have hj : joinE a b = 3 := by rw [joinE, if_neg (by omega), if_neg (by omega), if_pos (by omega)]
               rw [hj, join_bad (by omega)]; rfl)
            | (exfalso; omega)
            | (trace_state; fail)
    · skip
      refine o_y (y_move rfl) rfl rfl ?_
      refine wl_gno rfl rfl rfl rfl ?_
      refine wl_gno rfl rfl rfl rfl ?_
      refine wl_gno rfl rfl rfl rfl ?_
      refine wl_gno rfl rfl rfl rfl ?_
      refine wl_gno rfl rfl rfl rfl ?_
      refine wl_gno rfl rfl rfl rfl ?_
      refine o_y (y_pick_f rfl rfl) rfl rfl ?_
      refine wl_nil ?_
      refine e_seq ?_
      refine w_cond_f rfl ?_
      refine w_skip ?_
      refine e_seq ?_
      refine w_seq ?_
      refine w_seq ?_
      refine w_region ?_
      refine o_y (y_move rfl) rfl rfl ?_
      refine o_y (y_neq rfl rfl) rfl rfl ?_
      refine wl_splitp (t := 24) rfl (fun h6_1 => ?_) (fun h6_1 => ?_)
      · skip
        refine wl_nil ?_
        refine e_seq ?_
        refine w_cond_t rfl ?_
        refine w_seq ?_
        refine w_region ?_
        refine o_y (y_move rfl) rfl rfl ?_
        refine o_y (y_assign rfl) rfl rfl ?_
        refine o_y (y_assign rfl) rfl rfl ?_
        refine wl_nil ?_
        refine e_seq ?_
        refine w_ret ?_
        refine e_seq_ret ?_
        refine e_ret (ts := [4, 5]) rfl rfl rfl (fun w hw => ?_)
        refine ⟨?_, hw.base⟩
        first
          | (have hj : joinE a b = 0 := joinE_zero.2 ⟨by omega, by omega, by omega⟩
             rw [hj, join_good hj]; rfl)
          | (have hj : joinE a b = nameCk a := by rw [joinE, if_pos (by omega)]
             rw [hj, join_bad (by omega)]; rfl)
          | (have hj : joinE a b = nameCk b := by rw [joinE, if_neg (by omega), if_pos (by omega)]
             rw [hj, join_bad (by omega)]; rfl)
          | (have hj : joinE a b = 3 := by rw [joinE, if_neg (by omega), if_neg (by omega), if_pos (by omega)]
             rw [hj, join_bad (by omega)]; rfl)
          | (exfalso; omega)
          | (trace_state; fail)
      · skip
        refine wl_nil ?_
        refine e_seq ?_
        refine w_cond_f rfl ?_
        refine w_skip ?_
        refine e_seq ?_
        refine w_seq ?_
        refine w_region ?_
        refine o_y (y_move rfl) rfl rfl ?_
        refine o_y (y_move rfl) rfl rfl ?_
        refine o_y (y_adds rfl rfl (by omega)) rfl rfl ?_
        refine o_y (y_assign rfl) rfl rfl ?_
        refine o_y (y_assign rfl) rfl rfl ?_
        refine wl_nil ?_
        refine e_seq ?_
        refine w_ret ?_
        refine e_ret (ts := [4, 5]) rfl rfl rfl (fun w hw => ?_)
        refine ⟨?_, hw.base⟩
        first
          | (have hj : joinE a b = 0 := joinE_zero.2 ⟨by omega, by omega, by omega⟩
             rw [hj, join_good hj]; rfl)
          | (have hj : joinE a b = nameCk a := by rw [joinE, if_pos (by omega)]
             rw [hj, join_bad (by omega)]; rfl)
          | (have hj : joinE a b = nameCk b := by rw [joinE, if_neg (by omega), if_pos (by omega)]
             rw [hj, join_bad (by omega)]; rfl)
          | (have hj : joinE a b = 3 := by rw [joinE, if_neg (by omega), if_neg (by omega), if_pos (by omega)]
             rw [hj, join_bad (by omega)]; rfl)
          | (exfalso; omega)
          | (trace_state; fail)
  · skip
    refine wl_nil ?_
    refine e_seq ?_
    refine w_cond_f rfl ?_
    refine w_skip ?_
    refine e_seq ?_
    refine w_seq ?_
    refine w_seq ?_
    refine w_region ?_
    refine o_y (y_move rfl) rfl rfl ?_
    refine o_y (y_eql rfl rfl) rfl rfl ?_
    refine wl_splitp (t := 14) rfl (fun h4_1 => ?_) (fun h4_1 => ?_)
    · skip
      refine o_y (y_move rfl) rfl rfl ?_
      refine wl_gyes rfl rfl ?_
      refine o_y (y_move rfl) rfl rfl ?_
      refine wl_gyes rfl rfl ?_
      refine o_y (y_lens Tryz.underlying26 rfl) rfl rfl ?_
      refine wl_gyes rfl rfl ?_
      refine o_y (y_move rfl) rfl rfl ?_
      refine wl_gyes rfl rfl ?_
      refine o_y (y_lens Tryz.underlying26 rfl) rfl rfl ?_
      refine wl_gyes rfl rfl ?_
      refine o_y (y_addi rfl rfl (by omega) (by omega)) rfl rfl ?_
      refine wl_gyes rfl rfl ?_
      refine o_y (y_gtr rfl rfl) rfl rfl ?_
      refine wl_splitp (t := 21) rfl (fun h4_8 => ?_) (fun h4_8 => ?_)
      · skip
        refine o_y (y_pick_t rfl rfl) rfl rfl ?_
        refine wl_nil ?_
        refine e_seq ?_
        refine w_cond_t rfl ?_
        refine w_region ?_
        refine o_y (y_assign rfl) rfl rfl ?_
        refine wl_nil ?_
        refine e_seq ?_
        refine w_seq ?_
        refine w_seq ?_
        refine w_region ?_
        refine o_y (y_move rfl) rfl rfl ?_
        refine o_y (y_neq rfl rfl) rfl rfl ?_
        refine wl_splitp (t := 24) rfl (fun h6_1 => ?_) (fun h6_1 => ?_)
        · skip
          refine wl_nil ?_
          refine e_seq ?_
          refine w_cond_t rfl ?_
          refine w_seq ?_
          refine w_region ?_
          refine o_y (y_move rfl) rfl rfl ?_
          refine o_y (y_assign rfl) rfl rfl ?_
          refine o_y (y_assign rfl) rfl rfl ?_
          refine wl_nil ?_
          refine e_seq ?_
          refine w_ret ?_
          refine e_seq_ret ?_
          refine e_ret (ts := [4, 5]) rfl rfl rfl (fun w hw => ?_)
          refine ⟨?_, hw.base⟩
          first
            | (have hj : joinE a b = 0 := joinE_zero.2 ⟨by omega, by omega, by omega⟩
               rw [hj, join_good hj]; rfl)
            | (have hj : joinE a b = nameCk a := by rw [joinE, if_pos (by omega)]
               rw [hj, join_bad (by omega)]; rfl)
            | (have hj : joinE a b = nameCk b := by rw [joinE, if_neg (by omega), if_pos (by omega)]
               rw [hj, join_bad (by omega)]; rfl)
            | (have hj : joinE a b = 3 := by rw [joinE, if_neg (by omega), if_neg (by omega), if_pos (by omega)]
               rw [hj, join_bad (by omega)]; rfl)
            | (exfalso; omega)
            | (trace_state; fail)
        · skip
          refine wl_nil ?_
          refine e_seq ?_
          refine w_cond_f rfl ?_
          refine w_skip ?_
          refine e_seq ?_
          refine w_seq ?_
          refine w_region ?_
          refine o_y (y_move rfl) rfl rfl ?_
          refine o_y (y_move rfl) rfl rfl ?_
          refine o_y (y_adds rfl rfl (by omega)) rfl rfl ?_
          refine o_y (y_assign rfl) rfl rfl ?_
          refine o_y (y_assign rfl) rfl rfl ?_
          refine wl_nil ?_
          refine e_seq ?_
          refine w_ret ?_
          refine e_ret (ts := [4, 5]) rfl rfl rfl (fun w hw => ?_)
          refine ⟨?_, hw.base⟩
          first
            | (have hj : joinE a b = 0 := joinE_zero.2 ⟨by omega, by omega, by omega⟩
               rw [hj, join_good hj]; rfl)
            | (have hj : joinE a b = nameCk a := by rw [joinE, if_pos (by omega)]
               rw [hj, join_bad (by omega)]; rfl)
            | (have hj : joinE a b = nameCk b := by rw [joinE, if_neg (by omega), if_pos (by omega)]
               rw [hj, join_bad (by omega)]; rfl)
            | (have hj : joinE a b = 3 := by rw [joinE, if_neg (by omega), if_neg (by omega), if_pos (by omega)]
               rw [hj, join_bad (by omega)]; rfl)
            | (exfalso; omega)
            | (trace_state; fail)
      · skip
        refine o_y (y_pick_t rfl rfl) rfl rfl ?_
        refine wl_nil ?_
        refine e_seq ?_
        refine w_cond_f rfl ?_
        refine w_skip ?_
        refine e_seq ?_
        refine w_seq ?_
        refine w_seq ?_
        refine w_region ?_
        refine o_y (y_move rfl) rfl rfl ?_
        refine o_y (y_neq rfl rfl) rfl rfl ?_
        refine wl_splitp (t := 24) rfl (fun h6_1 => ?_) (fun h6_1 => ?_)
        · skip
          refine wl_nil ?_
          refine e_seq ?_
          refine w_cond_t rfl ?_
          refine w_seq ?_
          refine w_region ?_
          refine o_y (y_move rfl) rfl rfl ?_
          refine o_y (y_assign rfl) rfl rfl ?_
          refine o_y (y_assign rfl) rfl rfl ?_
          refine wl_nil ?_
          refine e_seq ?_
          refine w_ret ?_
          refine e_seq_ret ?_
          refine e_ret (ts := [4, 5]) rfl rfl rfl (fun w hw => ?_)
          refine ⟨?_, hw.base⟩
          first
            | (have hj : joinE a b = 0 := joinE_zero.2 ⟨by omega, by omega, by omega⟩
               rw [hj, join_good hj]; rfl)
            | (have hj : joinE a b = nameCk a := by rw [joinE, if_pos (by omega)]
               rw [hj, join_bad (by omega)]; rfl)
            | (have hj : joinE a b = nameCk b := by rw [joinE, if_neg (by omega), if_pos (by omega)]
               rw [hj, join_bad (by omega)]; rfl)
            | (have hj : joinE a b = 3 := by rw [joinE, if_neg (by omega), if_neg (by omega), if_pos (by omega)]
               rw [hj, join_bad (by omega)]; rfl)
            | (exfalso; omega)
            | (trace_state; fail)
        · skip
          refine wl_nil ?_
          refine e_seq ?_
          refine w_cond_f rfl ?_
          refine w_skip ?_
          refine e_seq ?_
          refine w_seq ?_
          refine w_region ?_
          refine o_y (y_move rfl) rfl rfl ?_
          refine o_y (y_move rfl) rfl rfl ?_
          refine o_y (y_adds rfl rfl (by omega)) rfl rfl ?_
          refine o_y (y_assign rfl) rfl rfl ?_
          refine o_y (y_assign rfl) rfl rfl ?_
          refine wl_nil ?_
          refine e_seq ?_
          refine w_ret ?_
          refine e_ret (ts := [4, 5]) rfl rfl rfl (fun w hw => ?_)
          refine ⟨?_, hw.base⟩
          first
            | (have hj : joinE a b = 0 := joinE_zero.2 ⟨by omega, by omega, by omega⟩
               rw [hj, join_good hj]; rfl)
            | (have hj : joinE a b = nameCk a := by rw [joinE, if_pos (by omega)]
               rw [hj, join_bad (by omega)]; rfl)
            | (have hj : joinE a b = nameCk b := by rw [joinE, if_neg (by omega), if_pos (by omega)]
               rw [hj, join_bad (by omega)]; rfl)
            | (have hj : joinE a b = 3 := by rw [joinE, if_neg (by omega), if_neg (by omega), if_pos (by omega)]
               rw [hj, join_bad (by omega)]; rfl)
            | (exfalso; omega)
            | (trace_state; fail)
    · skip
      refine o_y (y_move rfl) rfl rfl ?_
      refine wl_gno rfl rfl rfl rfl ?_
      refine wl_gno rfl rfl rfl rfl ?_
      refine wl_gno rfl rfl rfl rfl ?_
      refine wl_gno rfl rfl rfl rfl ?_
      refine wl_gno rfl rfl rfl rfl ?_
      refine wl_gno rfl rfl rfl rfl ?_
      refine o_y (y_pick_f rfl rfl) rfl rfl ?_
      refine wl_nil ?_
      refine e_seq ?_
      refine w_cond_f rfl ?_
      refine w_skip ?_
      refine e_seq ?_
      refine w_seq ?_
      refine w_seq ?_
      refine w_region ?_
      refine o_y (y_move rfl) rfl rfl ?_
      refine o_y (y_neq rfl rfl) rfl rfl ?_
      refine wl_splitp (t := 24) rfl (fun h6_1 => ?_) (fun h6_1 => ?_)
      · skip
        refine wl_nil ?_
        refine e_seq ?_
        refine w_cond_t rfl ?_
        refine w_seq ?_
        refine w_region ?_
        refine o_y (y_move rfl) rfl rfl ?_
        refine o_y (y_assign rfl) rfl rfl ?_
        refine o_y (y_assign rfl) rfl rfl ?_
        refine wl_nil ?_
        refine e_seq ?_
        refine w_ret ?_
        refine e_seq_ret ?_
        refine e_ret (ts := [4, 5]) rfl rfl rfl (fun w hw => ?_)
        refine ⟨?_, hw.base⟩
        first
          | (have hj : joinE a b = 0 := joinE_zero.2 ⟨by omega, by omega, by omega⟩
             rw [hj, join_good hj]; rfl)
          | (have hj : joinE a b = nameCk a := by rw [joinE, if_pos (by omega)]
             rw [hj, join_bad (by omega)]; rfl)
          | (have hj : joinE a b = nameCk b := by rw [joinE, if_neg (by omega), if_pos (by omega)]
             rw [hj, join_bad (by omega)]; rfl)
          | (have hj : joinE a b = 3 := by rw [joinE, if_neg (by omega), if_neg (by omega), if_pos (by omega)]
             rw [hj, join_bad (by omega)]; rfl)
          | (exfalso; omega)
          | (trace_state; fail)
      · skip
        refine wl_nil ?_
        refine e_seq ?_
        refine w_cond_f rfl ?_
        refine w_skip ?_
        refine e_seq ?_
        refine w_seq ?_
        refine w_region ?_
        refine o_y (y_move rfl) rfl rfl ?_
        refine o_y (y_move rfl) rfl rfl ?_
        refine o_y (y_adds rfl rfl (by omega)) rfl rfl ?_
        refine o_y (y_assign rfl) rfl rfl ?_
        refine o_y (y_assign rfl) rfl rfl ?_
        refine wl_nil ?_
        refine e_seq ?_
        refine w_ret ?_
        refine e_ret (ts := [4, 5]) rfl rfl rfl (fun w hw => ?_)
        refine ⟨?_, hw.base⟩
        first
          | (have hj : joinE a b = 0 := joinE_zero.2 ⟨by omega, by omega, by omega⟩
             rw [hj, join_good hj]; rfl)
          | (have hj : joinE a b = nameCk a := by rw [joinE, if_pos (by omega)]
             rw [hj, join_bad (by omega)]; rfl)
          | (have hj : joinE a b = nameCk b := by rw [joinE, if_neg (by omega), if_pos (by omega)]
             rw [hj, join_bad (by omega)]; rfl)
          | (have hj : joinE a b = 3 := by rw [joinE, if_neg (by omega), if_neg (by omega), if_pos (by omega)]
             rw [hj, join_bad (by omega)]; rfl)
          | (exfalso; omega)
          | (trace_state; fail)


def same2 (a b : Str) : Bool := decide (nameCk a = 0) && decide (nameCk b = 0) && decide (foldN a = foldN b)


theorem c_ref02_Same (a b : Str) (ha : a.length ≤ 1000000000) (hb : b.length ≤ 1000000000) : Pure Tryz.prog 64 #[.string (ba a), .string (ba b)] (.bool (same2 a b)) := by
  intro w0
  refine calls_of_W (ok0 := no) (S := []) (args := [.string (ba a), .string (ba b)]) 20 Tryz.func64 rfl rfl rfl (by simp) (by simp) ?_
  refine w_seq ?_
  refine w_region ?_
  refine o_y (y_assign rfl) rfl rfl ?_
  refine wl_nil ?_
  refine e_seq ?_
  refine w_seq ?_
  refine w_region ?_
  refine o_y (y_move rfl) rfl rfl ?_
  refine o_callp rfl ent_80 (c_ref02_Check _) rfl ?_
  refine o_y (y_eql rfl rfl) rfl rfl ?_
  refine wl_splitp (t := 7) rfl (fun h1_2 => ?_) (fun h1_2 => ?_)
  · skip
    refine o_y (y_move rfl) rfl rfl ?_
    refine wl_gyes rfl rfl ?_
    refine o_y (y_move rfl) rfl rfl ?_
    refine wl_gyes rfl rfl ?_
    refine o_callp rfl ent_80 (c_ref02_Check _) rfl ?_
    refine wl_gyes rfl rfl ?_
    refine o_y (y_eql rfl rfl) rfl rfl ?_
    refine wl_splitp (t := 11) rfl (fun h1_6 => ?_) (fun h1_6 => ?_)
    · skip
      refine o_y (y_pick_t rfl rfl) rfl rfl ?_
      refine o_y (y_move rfl) rfl rfl ?_
      refine wl_gyes rfl rfl ?_
      refine o_y (y_move rfl) rfl rfl ?_
      refine wl_gyes rfl rfl ?_
      refine o_callp rfl ent_104 (p_ref02_Fold _ (by omega)) rfl ?_
      refine wl_gyes rfl rfl ?_
      refine o_y (y_move rfl) rfl rfl ?_
      refine wl_gyes rfl rfl ?_
      refine o_callp rfl ent_104 (p_ref02_Fold _ (by omega)) rfl ?_
      refine wl_gyes rfl rfl ?_
      refine o_y (y_eqls rfl rfl) rfl rfl ?_
      refine o_y (y_pick_t rfl rfl) rfl rfl ?_
      refine o_y (y_assign rfl) rfl rfl ?_
      refine wl_nil ?_
      refine e_seq ?_
      refine w_ret ?_
      refine e_ret (ts := [4]) rfl rfl rfl (fun w hw => ?_)
      refine ⟨?_, hw.base⟩
      show Ending.returned (.bool _) = _
      congr 2
      simp [same2, *]
    · skip
      refine o_y (y_pick_t rfl rfl) rfl rfl ?_
      refine o_y (y_move rfl) rfl rfl ?_
      refine wl_gno rfl rfl rfl rfl ?_
      refine wl_gno rfl rfl rfl rfl ?_
      refine wl_gno rfl rfl rfl rfl ?_
      refine wl_gno rfl rfl rfl rfl ?_
      refine wl_gno rfl rfl rfl rfl ?_
      refine o_y (y_pick_f rfl rfl) rfl rfl ?_
      refine o_y (y_assign rfl) rfl rfl ?_
      refine wl_nil ?_
      refine e_seq ?_
      refine w_ret ?_
      refine e_ret (ts := [4]) rfl rfl rfl (fun w hw => ?_)
      refine ⟨?_, hw.base⟩
      show Ending.returned (.bool _) = _
      congr 2
      simp [same2, *]
  · skip
    refine o_y (y_move rfl) rfl rfl ?_
    refine wl_gno rfl rfl rfl rfl ?_
    refine wl_gno rfl rfl rfl rfl ?_
    refine wl_gno rfl rfl rfl rfl ?_
    refine o_y (y_pick_f rfl rfl) rfl rfl ?_
    refine o_y (y_move rfl) rfl rfl ?_
    refine wl_gno rfl rfl rfl rfl ?_
    refine wl_gno rfl rfl rfl rfl ?_
    refine wl_gno rfl rfl rfl rfl ?_
    refine wl_gno rfl rfl rfl rfl ?_
    refine wl_gno rfl rfl rfl rfl ?_
    refine o_y (y_pick_f rfl rfl) rfl rfl ?_
    refine o_y (y_assign rfl) rfl rfl ?_
    refine wl_nil ?_
    refine e_seq ?_
    refine w_ret ?_
    refine e_ret (ts := [4]) rfl rfl rfl (fun w hw => ?_)
    refine ⟨?_, hw.base⟩
    show Ending.returned (.bool _) = _
    congr 2
    simp [same2, *]

theorem c_candidates (s : Sr) (A : Option Addr) (c : Nat) (n : Str) : RC Tryz.prog 116 #[.agg (srC s A c).toArray, .string (ba n)] [] (α := Nat × Nat) (fun p => .func (.func 140) #[] #[.pointer (some ⟨p.1, 0, none⟩), .pointer (some ⟨p.2, 0, none⟩)]) (fun p => [Ch.row p.1 [.string (ba n)] 26, Ch.row p.2 (srC s A c) 82]) := by
  refine rc_of_W (args := [.agg (srC s A c).toArray, .string (ba n)]) 6 Tryz.func116 rfl rfl rfl (fun w0 => ?_)
  refine w_seq ?_
  refine w_region ?_
  refine o_box rfl rfl rfl (fun b1 => ?_)
  refine o_box rfl rfl rfl (fun b2 => ?_)
  refine o_y (y_assign rfl) rfl rfl ?_
  refine wl_nil ?_
  refine e_seq ?_
  refine w_seq ?_
  refine w_region ?_
  refine o_y (y_makeFunc rfl rfl) rfl rfl ?_
  refine o_y (y_assign rfl) rfl rfl ?_
  refine wl_nil ?_
  refine e_seq ?_
  refine w_ret ?_
  refine e_ret (ts := [4]) rfl rfl rfl (fun w hw => ?_)
  exact ⟨(b2, b1), rfl, hw.base, (hw.weak (.cons_cons _ (.cons_cons _ .slnil)) (fun s hs => hs)).toNews⟩


theorem joins_yes {n : Str} {l : List Str} {k : Nat} (hk : k < l.length) (h : joinE n (l.getD k []) = 0) : joins n (l.take (k + 1)) = joins n (l.take k) ++ [n ++ l.getD k []] := by
  rw [joins, filter_yes hk (by simpa using h), List.map_append]; rfl
theorem joins_no {n : Str} {l : List Str} {k : Nat} (hk : k < l.length) (h : ¬ joinE n (l.getD k []) = 0) : joins n (l.take (k + 1)) = joins n (l.take k) := by
  rw [joins, filter_no hk (by simpa using h)]; rfl
theorem joins_split {n : Str} {l : List Str} {k : Nat} (hk : k < l.length) (h : joinE n (l.getD k []) = 0) : joins n l = joins n (l.take k) ++ (n ++ l.getD k []) :: joins n (l.drop (k + 1)) := by
  have e : joins n l = joins n (l.take (k + 1)) ++ joins n (l.drop (k + 1)) := by
    rw [joins, joins, joins, ← List.map_append, ← List.filter_append, List.take_append_drop]
  rw [e, joins_yes hk h, List.append_assoc]; rfl
def P0 (s : Sr) (n : Str) : List Str := if ownS s n then [n] else []
def R0 (s : Sr) (n : Str) : List Str := if ownS s n then [] else [n]
theorem cands_nil (s : Sr) : cands s [] = [[]] := rfl
theorem cands_eq {s : Sr} {n : Str} (h : n ≠ []) : cands s n = P0 s n ++ joins n s.doms ++ R0 s n := by
  rw [cands, if_neg h, P0, R0]
  split
  · simp
  · simp
theorem own_yes {s : Sr} {n : Str} (h : s.ndots ≤ ((labsN n).length : Int) - 1) : ownS s n := .inr h
theorem own_no {s : Sr} {n : Str} (hn : n ≠ []) (h : ¬ s.ndots ≤ ((labsN n).length : Int) - 1) : ¬ ownS s n := fun q => q.elim hn h


set_option maxRecDepth 100000 in
theorem c_cand1 (s : Sr) (A : Option Addr) (c : Nat) (n : Str) (bn bs : Nat) (hs : s.doms.length ≤ 1000000000) (hn : n.length ≤ 1000000000) (hd : ∀ d ∈ s.doms, d.length ≤ 1000000000) (hnd : -1000000 ≤ s.ndots ∧ s.ndots ≤ 1000000) : Iter Tryz.prog 140 [.pointer (some ⟨bn, 0, none⟩), .pointer (some ⟨bs, 0, none⟩)] [Ch.row bn [.string (ba n)] 26, Ch.row bs (srC s A c) 82, Ch.rd A 1 encs s.doms] encs (cands s n) := by
  refine iter_of_W 59 Tryz.func140 rfl rfl rfl (fun lr σ I Ix C Sc hy g0 hg0 w0 => ?_)
  have hll := labsN_le n hn
  refine w_seq ?_
  refine w_region ?_
  refine o_y (y_loadSo 0 ty_26 rfl rfl rfl) rfl rfl ?_
  refine o_y (y_eqls rfl rfl) rfl rfl ?_
  refine wl_splitp (t := 11) rfl (fun h0_1 => ?_) (fun h0_1 => ?_)
  · skip
    refine o_y (y_assign rfl) rfl rfl ?_
    refine wl_nil ?_
    refine e_seq ?_
    refine w_seq ?_
    refine w_draw 11 rfl mixed ?_
    refine a_take (i := 0) rfl wanted_none (y_move rfl) (fun w h => h) (fun w h => h) rfl (pk_seq pk_fn) (by kernel_rfl) rfl ?_
    refine a_take (i := 1) rfl wanted_none (y_move rfl) (fun w h => h) (fun w h => h) rfl (pk_seq pk_fn) (by kernel_rfl) rfl ?_
    refine a_skip (i := 2) rfl (wanted_no rfl rfl rfl) (fun w h => h) rfl (pk_seq pk_fn) (by kernel_rfl) rfl ?_
    refine a_skip (i := 6) rfl (wanted_no rfl rfl rfl) (fun w h => h) rfl (pk_seq pk_fn) (by kernel_rfl) rfl ?_
    refine a_skip (i := 7) rfl (wanted_no rfl rfl rfl) (fun w h => h) rfl (pk_seq pk_fn) (by kernel_rfl) rfl ?_
    refine a_skip (i := 3) rfl (wanted_no rfl rfl rfl) (fun w h => h) rfl (pk_seq pk_fn) (by kernel_rfl) rfl ?_
    refine a_skip (i := 4) rfl (wanted_no rfl rfl rfl) (fun w h => h) rfl (pk_seq pk_fn) (by kernel_rfl) rfl ?_
    refine a_skip (i := 5) rfl (wanted_no rfl rfl rfl) (fun w h => h) rfl (pk_seq pk_fn) (by kernel_rfl) rfl ?_
    refine a_skip (i := 8) rfl (wanted_no rfl rfl rfl) (fun w h => h) rfl (pk_seq pk_fn) (by kernel_rfl) rfl ?_
    refine a_take (i := 9) rfl wanted_none (y_pick_t rfl rfl) (fun w h => h) (fun w h => h) rfl (pk_seq pk_fn) (by kernel_rfl) rfl ?_
    refine a_take (i := 10) rfl wanted_none (y_assign rfl) (fun w h => h) (fun w h => h) rfl (pk_seq pk_fn) (by kernel_rfl) rfl ?_
    refine a_done (by kernel_rfl) ?_
    refine e_seq ?_
    refine w_seq ?_
    refine w_seq ?_
    have hx0 : cands s n = [] ++ n :: [] := by rw [h0_1]; rfl
    refine w_region ?_
    refine o_y (y_move rfl) rfl rfl ?_
    refine o_y (y_move rfl) rfl rfl ?_
    refine wl_gyes rfl rfl ?_
    refine o_y (y_move rfl) rfl rfl ?_
    refine wl_gyes rfl rfl ?_
    refine o_y (y_loadSo 0 ty_26 rfl rfl rfl) rfl rfl ?_
    refine wl_gyes rfl rfl ?_
    refine o_yield rfl rfl (hy [] n _ g0 hx0 hg0) (fun _ => .z) (fun s hs => List.mem_append_right _ hs) rfl (fun g' hT => ?_) (fun g' hF => ?_)
    · skip
      refine wl_gyes rfl rfl ?_
      refine o_y (y_not rfl) rfl rfl ?_
      refine o_y (y_pick_t rfl rfl) rfl rfl ?_
      refine o_y (y_move rfl) rfl rfl ?_
      refine wl_gyes rfl rfl ?_
      refine o_y (y_move rfl) rfl rfl ?_
      refine o_y (y_pick_f rfl rfl) rfl rfl ?_
      refine wl_nil ?_
      refine e_seq ?_
      refine w_cond_t rfl ?_
      refine w_ret ?_
      refine e_seq_ret ?_
      refine e_ret (ts := []) rfl rfl rfl (fun w hw => ?_)
      first
        | (have hz : n = [] := h0_1
           exact iter_end _ (.inl (by rw [hz, cands_nil]; rw [hz] at hT; exact hT)) (hw.weak (.cons_cons _ .slnil) (fun s hs => hs)))
        | (have hz : n = [] := h0_1
           exact iter_end _ (.inr ⟨[] ++ [n], [], by rw [hx0, List.append_nil], hF⟩) (hw.weak (.cons_cons _ .slnil) (fun s hs => hs)))
        | exact iter_end _ (.inr ⟨[] ++ [n], joins n s.doms ++ R0 s n, by rw [hx0]; rfl, hF⟩) (hw.weak (.cons_cons _ .slnil) (fun s hs => hs))
        | exact iter_end _ (.inl (by rw [hx3]; exact hT)) (hw.weak (.cons_cons _ .slnil) (fun s hs => hs))
        | exact iter_end _ (.inr ⟨_, [], by rw [hx3, List.append_nil], hF⟩) (hw.weak (.cons_cons _ .slnil) (fun s hs => hs))
        | exact iter_end _ (.inr ⟨_, joins n (s.doms.drop (k + 1)) ++ R0 s n, by rw [hx2, ← List.singleton_append, ← List.append_assoc], hF⟩) (hw.weak (.cons_cons _ .slnil) (fun s hs => hs))
        | exact iter_end _ (.inl (by rw [cands_eq hne, R0, if_pos (own_yes (by omega)), List.append_nil]; exact hI.2)) (hw.weak (.cons_cons _ .slnil) (fun s hs => hs))
        | (trace_state; fail)
    · skip
      refine wl_gyes rfl rfl ?_
      refine o_y (y_not rfl) rfl rfl ?_
      refine o_y (y_pick_t rfl rfl) rfl rfl ?_
      refine o_y (y_move rfl) rfl rfl ?_
      refine wl_gno rfl rfl rfl rfl ?_
      refine o_y (y_pick_t rfl rfl) rfl rfl ?_
      refine wl_nil ?_
      refine e_seq ?_
      refine w_cond_t rfl ?_
      refine w_ret ?_
      refine e_seq_ret ?_
      refine e_ret (ts := []) rfl rfl rfl (fun w hw => ?_)
      first
        | (have hz : n = [] := h0_1
           exact iter_end _ (.inl (by rw [hz, cands_nil]; rw [hz] at hT; exact hT)) (hw.weak (.cons_cons _ .slnil) (fun s hs => hs)))
        | (have hz : n = [] := h0_1
           exact iter_end _ (.inr ⟨[] ++ [n], [], by rw [hx0, List.append_nil], hF⟩) (hw.weak (.cons_cons _ .slnil) (fun s hs => hs)))
        | exact iter_end _ (.inr ⟨[] ++ [n], joins n s.doms ++ R0 s n, by rw [hx0]; rfl, hF⟩) (hw.weak (.cons_cons _ .slnil) (fun s hs => hs))
        | exact iter_end _ (.inl (by rw [hx3]; exact hT)) (hw.weak (.cons_cons _ .slnil) (fun s hs => hs))
        | exact iter_end _ (.inr ⟨_, [], by rw [hx3, List.append_nil], hF⟩) (hw.weak (.cons_cons _ .slnil) (fun s hs => hs))
        | exact iter_end _ (.inr ⟨_, joins n (s.doms.drop (k + 1)) ++ R0 s n, by rw [hx2, ← List.singleton_append, ← List.append_assoc], hF⟩) (hw.weak (.cons_cons _ .slnil) (fun s hs => hs))
        | exact iter_end _ (.inl (by rw [cands_eq hne, R0, if_pos (own_yes (by omega)), List.append_nil]; exact hI.2)) (hw.weak (.cons_cons _ .slnil) (fun s hs => hs))
        | (trace_state; fail)
  · skip
    refine o_y (y_assign rfl) rfl rfl ?_
    refine wl_nil ?_
    refine e_seq ?_
    refine w_seq ?_
    refine w_draw 11 rfl mixed ?_
    refine a_take (i := 0) rfl wanted_none (y_move rfl) (fun w h => h) (fun w h => h) rfl (pk_seq pk_fn) (by kernel_rfl) rfl ?_
    refine a_take (i := 1) rfl wanted_none (y_move rfl) (fun w h => h) (fun w h => h) rfl (pk_seq pk_fn) (by kernel_rfl) rfl ?_
    refine a_take (i := 2) rfl (wanted_yes rfl rfl) (y_loadSo 0 ty_26 rfl rfl rfl) (fun w h => h) (fun w h => h) rfl (pk_seq pk_fn) (by kernel_rfl) rfl ?_
    refine a_take (i := 6) rfl (wanted_yes rfl rfl) (y_field fa_82_0 rfl) (fun w h => h) (fun w h => h) rfl (pk_seq pk_fn) (by kernel_rfl) rfl ?_
    refine a_take (i := 7) rfl (wanted_yes rfl rfl) (y_loadSo 1 ty_3 rfl rfl rfl) (fun w h => h) (fun w h => h) rfl (pk_seq pk_fn) (by kernel_rfl) rfl ?_
    refine a_one (i := 3) rfl rfl rfl (tame_call rfl ent_97) (by kernel_rfl) rfl ?_
    refine wl_gyes rfl rfl ?_
    refine o_callr1 rfl ent_97 rfl (c_name_Labels _) (fun w hw => rd_nil) (fun ⟨A0, c0⟩ => ?_)
    refine wl_nil ?_
    refine e_one (fun w h => h.weak (.cons _ (List.Sublist.refl _)) (fun s hs => hs)) ?_
    refine a_take (i := 4) rfl (wanted_yes rfl rfl) (y_lenl Tryz.underlying71 rfl) (fun w h => h.weak (.cons _ (List.Sublist.refl _)) (fun s hs => hs)) (fun w h => h) rfl (pk_seq pk_fn) (by kernel_rfl) rfl ?_
    refine a_take (i := 5) rfl (wanted_yes rfl rfl) (y_subi rfl rfl (by omega) (by omega)) (fun w h => h.weak (.cons _ (List.Sublist.refl _)) (fun s hs => hs)) (fun w h => h) rfl (pk_seq pk_fn) (by kernel_rfl) rfl ?_
    refine a_take (i := 8) rfl (wanted_yes rfl rfl) (y_geq rfl rfl) (fun w h => h.weak (.cons _ (List.Sublist.refl _)) (fun s hs => hs)) (fun w h => h) rfl (pk_seq pk_fn) (by kernel_rfl) rfl ?_
    refine wa_splitp (t := 20) rfl (fun h1_8 => ?_) (fun h1_8 => ?_)
    · skip
      refine a_take (i := 9) rfl wanted_none (y_pick_f rfl rfl) (fun w h => h.weak (.cons _ (List.Sublist.refl _)) (fun s hs => hs)) (fun w h => h) rfl (pk_seq pk_fn) (by kernel_rfl) rfl ?_
      refine a_take (i := 10) rfl wanted_none (y_assign rfl) (fun w h => h.weak (.cons _ (List.Sublist.refl _)) (fun s hs => hs)) (fun w h => h) rfl (pk_seq pk_fn) (by kernel_rfl) rfl ?_
      refine a_done (by kernel_rfl) ?_
      refine e_seq ?_
      refine w_seq ?_
      refine w_seq ?_
      have hx0 : cands s n = [] ++ n :: (joins n s.doms ++ R0 s n) := by rw [cands_eq h0_1, P0, if_pos (own_yes (by omega))]; rfl
      refine w_region ?_
      refine o_y (y_move rfl) rfl rfl ?_
      refine o_y (y_move rfl) rfl rfl ?_
      refine wl_gyes rfl rfl ?_
      refine o_y (y_move rfl) rfl rfl ?_
      refine wl_gyes rfl rfl ?_
      refine o_y (y_loadSo 0 ty_26 rfl rfl rfl) rfl rfl ?_
      refine wl_gyes rfl rfl ?_
      refine o_yield rfl rfl (hy [] n _ g0 hx0 hg0) (fun _ => (.s (.z))) (fun s hs => List.mem_append_right _ hs) rfl (fun g' hT => ?_) (fun g' hF => ?_)
      · skip
        refine wl_gyes rfl rfl ?_
        refine o_y (y_not rfl) rfl rfl ?_
        refine o_y (y_pick_t rfl rfl) rfl rfl ?_
        refine o_y (y_move rfl) rfl rfl ?_
        refine wl_gyes rfl rfl ?_
        refine o_y (y_move rfl) rfl rfl ?_
        refine o_y (y_pick_f rfl rfl) rfl rfl ?_
        refine wl_nil ?_
        refine e_seq ?_
        refine w_cond_f rfl ?_
        refine w_skip ?_
        refine e_seq ?_
        refine w_seq ?_
        refine w_seq ?_
        have hne : n ≠ [] := h0_1
        have hP : P0 s n = [n] := if_pos (own_yes (by omega))
        refine w_region ?_
        refine o_y (y_field fa_82_1 rfl) rfl rfl ?_
        refine o_y (y_loadSo 1 ty_59 rfl rfl rfl) rfl rfl ?_
        refine o_y (y_lenl Tryz.underlying59 rfl) rfl rfl ?_
        refine o_y (y_move rfl) rfl rfl ?_
        refine wl_nil ?_
        refine e_seq ?_
        refine w_block ?_
        refine w_heap (fun w h => h.weak (.cons _ (.cons_cons _ .slnil)) (fun s hs => hs)) ?_
        refine w_loop1 (σ := Nat × σ) [7, 8, 9, 35, 36, 37, 38, 39, 40, 41, 42, 43, 44, 45, 46, 47, 48, 49, 50, 51, 52, 53] (fun q => q.1 ≤ s.doms.length ∧ I (P0 s n ++ joins n (s.doms.take q.1)) q.2) (fun q => s.doms.length - q.1) (fun q => [(35, .int .i64 q.1)]) (fun q => C q.2) ((0, g')) ?_ ⟨rfl, trivial⟩ rfl (fun q hI => ?_)
        · first
            | exact ⟨Nat.zero_le _, by rw [hP]; simpa [joins] using hT⟩
            | exact ⟨Nat.zero_le _, by rw [hP]; simpa [joins] using hg0⟩
        obtain ⟨k, g⟩ := q
        dsimp only at hI ⊢
        refine w_seq ?_
        refine w_region ?_
        refine o_y (y_lss rfl rfl) rfl rfl ?_
        refine wl_splitp (t := 36) rfl (fun h4_0 => ?_) (fun h4_0 => ?_)
        · skip
          refine wl_nil ?_
          refine e_seq ?_
          refine w_seq ?_
          refine w_cond_t rfl ?_
          refine w_skip ?_
          refine e_seq ?_
          refine w_seq ?_
          refine w_block ?_
          refine w_seq ?_
          refine w_region ?_
          refine o_y (y_ixm  Tryz.underlying59 ty_26 rfl rfl (rs_S 2 rfl) rfl (by omega)) rfl rfl ?_
          refine o_y (y_ldm0 enc_s ([] : Str) ty_26 rfl (rs_S 2 rfl) (by omega) rfl rfl) rfl rfl ?_
          refine o_y (y_assign rfl) rfl rfl ?_
          refine wl_nil ?_
          refine e_seq ?_
          refine w_seq ?_
          refine w_region ?_
          refine o_y (y_loadSo 0 ty_26 rfl rfl rfl) rfl rfl ?_
          refine o_y (y_move rfl) rfl rfl ?_
          refine o_callp rfl ent_66 (p_name_Join _ _ (by omega) (by have := hd _ (mem_getD (l := s.doms) (d := []) (k := k) (by omega)); omega)) rfl ?_
          refine o_y (y_move rfl) rfl rfl ?_
          refine o_y (y_extract rfl rfl) rfl rfl ?_
          refine o_y (y_extract rfl rfl) rfl rfl ?_
          refine o_y (y_assign rfl) rfl rfl ?_
          refine o_y (y_assign rfl) rfl rfl ?_
          refine wl_nil ?_
          refine e_seq ?_
          refine w_seq ?_
          refine w_region ?_
          refine o_y (y_move rfl) rfl rfl ?_
          refine o_y (y_eql rfl rfl) rfl rfl ?_
          refine wl_splitp (t := 46) rfl (fun h7_1 => ?_) (fun h7_1 => ?_)
          · skip
            have hk : k < s.doms.length := by omega
            have hx2 : cands s n = (P0 s n ++ joins n (s.doms.take k)) ++ (n ++ s.doms.getD k []) :: (joins n (s.doms.drop (k + 1)) ++ R0 s n) := by rw [cands_eq hne, joins_split hk h7_1]; simp
            refine wl_as (t := 8) (.string (ba (n ++ s.doms.getD k []))) rfl (congrArg (fun q => Value.string (ba q)) (join_good h7_1)) ?_
            refine o_y (y_move rfl) rfl rfl ?_
            refine wl_gyes rfl rfl ?_
            refine o_y (y_move rfl) rfl rfl ?_
            refine wl_gyes rfl rfl ?_
            refine o_y (y_move rfl) rfl rfl ?_
            refine wl_gyes rfl rfl ?_
            refine o_yield rfl rfl (hy _ _ _ g hx2 hI.2) (fun _ => .z) (fun s hs => List.mem_append_right _ hs) rfl (fun g' hT => ?_) (fun g' hF => ?_)
            · skip
              refine wl_gyes rfl rfl ?_
              refine o_y (y_not rfl) rfl rfl ?_
              refine o_y (y_pick_t rfl rfl) rfl rfl ?_
              refine wl_nil ?_
              refine e_seq ?_
              refine w_cond_f rfl ?_
              refine w_skip ?_
              refine e_blk ?_
              refine e_seq ?_
              refine w_region ?_
              refine o_y (y_addi rfl rfl (by omega) (by omega)) rfl rfl ?_
              refine o_y (y_move rfl) rfl rfl ?_
              refine wl_nil ?_
              refine e_back ((k + 1, g')) ?_ ?_ ⟨rfl, trivial⟩ (by repeat (first | exact trivial | refine ⟨rfl, ?_⟩)) (fun w h => h)
              · exact ⟨by show k + 1 ≤ _; omega, by show I (P0 s n ++ joins n (s.doms.take (k + 1))) _; rw [joins_yes hk h7_1, ← List.append_assoc]; exact hT⟩
              · show s.doms.length - (k + 1) < s.doms.length - k
                omega
            · skip
              refine wl_gyes rfl rfl ?_
              refine o_y (y_not rfl) rfl rfl ?_
              refine o_y (y_pick_t rfl rfl) rfl rfl ?_
              refine wl_nil ?_
              refine e_seq ?_
              refine w_cond_t rfl ?_
              refine w_ret ?_
              refine e_blk_ret ?_
              refine e_seq_ret ?_
              refine e_loop_ret ?_
              refine e_blk_ret ?_
              refine e_seq_ret ?_
              refine e_ret (ts := []) rfl rfl rfl (fun w hw => ?_)
              first
                | (have hz : n = [] := h0_1
                   exact iter_end _ (.inl (by rw [hz, cands_nil]; rw [hz] at hT; exact hT)) (hw.weak (.cons_cons _ .slnil) (fun s hs => hs)))
                | (have hz : n = [] := h0_1
                   exact iter_end _ (.inr ⟨[] ++ [n], [], by rw [hx0, List.append_nil], hF⟩) (hw.weak (.cons_cons _ .slnil) (fun s hs => hs)))
                | exact iter_end _ (.inr ⟨[] ++ [n], joins n s.doms ++ R0 s n, by rw [hx0]; rfl, hF⟩) (hw.weak (.cons_cons _ .slnil) (fun s hs => hs))
                | exact iter_end _ (.inl (by rw [hx3]; exact hT)) (hw.weak (.cons_cons _ .slnil) (fun s hs => hs))
                | exact iter_end _ (.inr ⟨_, [], by rw [hx3, List.append_nil], hF⟩) (hw.weak (.cons_cons _ .slnil) (fun s hs => hs))
                | exact iter_end _ (.inr ⟨_, joins n (s.doms.drop (k + 1)) ++ R0 s n, by rw [hx2, ← List.singleton_append, ← List.append_assoc], hF⟩) (hw.weak (.cons_cons _ .slnil) (fun s hs => hs))
                | exact iter_end _ (.inl (by rw [cands_eq hne, R0, if_pos (own_yes (by omega)), List.append_nil]; exact hI.2)) (hw.weak (.cons_cons _ .slnil) (fun s hs => hs))
                | (trace_state; fail)
          · skip
            refine o_y (y_move rfl) rfl rfl ?_
            refine wl_gno rfl rfl rfl rfl ?_
            refine wl_gno rfl rfl rfl rfl ?_
            refine wl_gno rfl rfl rfl rfl ?_
            refine wl_gno rfl rfl rfl rfl ?_
            refine o_y (y_pick_f rfl rfl) rfl rfl ?_
            refine wl_nil ?_
            refine e_seq ?_
            refine w_cond_f rfl ?_
            refine w_skip ?_
            refine e_blk ?_
            refine e_seq ?_
            refine w_region ?_
            refine o_y (y_addi rfl rfl (by omega) (by omega)) rfl rfl ?_
            refine o_y (y_move rfl) rfl rfl ?_
            refine wl_nil ?_
            refine e_back ((k + 1, g)) ?_ ?_ ⟨rfl, trivial⟩ (by repeat (first | exact trivial | refine ⟨rfl, ?_⟩)) (fun w h => h)
            · exact ⟨by show k + 1 ≤ _; omega, by show I (P0 s n ++ joins n (s.doms.take (k + 1))) _; rw [joins_no (by omega) h7_1]; exact hI.2⟩
            · show s.doms.length - (k + 1) < s.doms.length - k
              omega
        · skip
          refine wl_nil ?_
          refine e_seq ?_
          refine w_seq ?_
          refine w_cond_f rfl ?_
          refine w_exit ?_
          refine e_seq_exit ?_
          refine e_loop_exit ?_
          refine e_blk_hit ?_
          refine e_seq ?_
          refine w_seq ?_
          have hkl : k = s.doms.length := by omega
          subst hkl
          rw [List.take_length] at hI
          refine w_region ?_
          refine o_y (y_move rfl) rfl rfl ?_
          refine o_y (y_not rfl) rfl rfl ?_
          refine wl_nil ?_
          refine e_seq ?_
          refine w_cond_f rfl ?_
          refine w_skip ?_
          refine e_end (ts := []) rfl rfl rfl (fun w hw => ?_)
          first
            | (have hz : n = [] := h0_1
               exact iter_end _ (.inl (by rw [hz, cands_nil]; rw [hz] at hT; exact hT)) (hw.weak (.cons_cons _ .slnil) (fun s hs => hs)))
            | (have hz : n = [] := h0_1
               exact iter_end _ (.inr ⟨[] ++ [n], [], by rw [hx0, List.append_nil], hF⟩) (hw.weak (.cons_cons _ .slnil) (fun s hs => hs)))
            | exact iter_end _ (.inr ⟨[] ++ [n], joins n s.doms ++ R0 s n, by rw [hx0]; rfl, hF⟩) (hw.weak (.cons_cons _ .slnil) (fun s hs => hs))
            | exact iter_end _ (.inl (by rw [hx3]; exact hT)) (hw.weak (.cons_cons _ .slnil) (fun s hs => hs))
            | exact iter_end _ (.inr ⟨_, [], by rw [hx3, List.append_nil], hF⟩) (hw.weak (.cons_cons _ .slnil) (fun s hs => hs))
            | exact iter_end _ (.inr ⟨_, joins n (s.doms.drop (k + 1)) ++ R0 s n, by rw [hx2, ← List.singleton_append, ← List.append_assoc], hF⟩) (hw.weak (.cons_cons _ .slnil) (fun s hs => hs))
            | exact iter_end _ (.inl (by rw [cands_eq hne, R0, if_pos (own_yes (by omega)), List.append_nil]; exact hI.2)) (hw.weak (.cons_cons _ .slnil) (fun s hs => hs))
            | (trace_state; fail)
      · skip
        refine wl_gyes rfl rfl ?_
        refine o_y (y_not rfl) rfl rfl ?_
        refine o_y (y_pick_t rfl rfl) rfl rfl ?_
        refine o_y (y_move rfl) rfl rfl ?_
        refine wl_gno rfl rfl rfl rfl ?_
        refine o_y (y_pick_t rfl rfl) rfl rfl ?_
        refine wl_nil ?_
        refine e_seq ?_
        refine w_cond_t rfl ?_
        refine w_ret ?_
        refine e_seq_ret ?_
        refine e_ret (ts := []) rfl rfl rfl (fun w hw => ?_)
        first
          | (have hz : n = [] := h0_1
             exact iter_end _ (.inl (by rw [hz, cands_nil]; rw [hz] at hT; exact hT)) (hw.weak (.cons _ (.cons_cons _ .slnil)) (fun s hs => hs)))
          | (have hz : n = [] := h0_1
             exact iter_end _ (.inr ⟨[] ++ [n], [], by rw [hx0, List.append_nil], hF⟩) (hw.weak (.cons _ (.cons_cons _ .slnil)) (fun s hs => hs)))
          | exact iter_end _ (.inr ⟨[] ++ [n], joins n s.doms ++ R0 s n, by rw [hx0]; rfl, hF⟩) (hw.weak (.cons _ (.cons_cons _ .slnil)) (fun s hs => hs))
          | exact iter_end _ (.inl (by rw [hx3]; exact hT)) (hw.weak (.cons _ (.cons_cons _ .slnil)) (fun s hs => hs))
          | exact iter_end _ (.inr ⟨_, [], by rw [hx3, List.append_nil], hF⟩) (hw.weak (.cons _ (.cons_cons _ .slnil)) (fun s hs => hs))
          | exact iter_end _ (.inr ⟨_, joins n (s.doms.drop (k + 1)) ++ R0 s n, by rw [hx2, ← List.singleton_append, ← List.append_assoc], hF⟩) (hw.weak (.cons _ (.cons_cons _ .slnil)) (fun s hs => hs))
          | exact iter_end _ (.inl (by rw [cands_eq hne, R0, if_pos (own_yes (by omega)), List.append_nil]; exact hI.2)) (hw.weak (.cons _ (.cons_cons _ .slnil)) (fun s hs => hs))
          | (trace_state; fail)
    · skip
      refine a_take (i := 9) rfl wanted_none (y_pick_f rfl rfl) (fun w h => h.weak (.cons _ (List.Sublist.refl _)) (fun s hs => hs)) (fun w h => h) rfl (pk_seq pk_fn) (by kernel_rfl) rfl ?_
      refine a_take (i := 10) rfl wanted_none (y_assign rfl) (fun w h => h.weak (.cons _ (List.Sublist.refl _)) (fun s hs => hs)) (fun w h => h) rfl (pk_seq pk_fn) (by kernel_rfl) rfl ?_
      refine a_done (by kernel_rfl) ?_
      refine e_seq ?_
      refine w_seq ?_
      refine w_seq ?_
      refine w_region ?_
      refine o_y (y_move rfl) rfl rfl ?_
      refine o_y (y_move rfl) rfl rfl ?_
      refine wl_gno rfl rfl rfl rfl ?_
      refine wl_gno rfl rfl rfl rfl ?_
      refine wl_gno rfl rfl rfl rfl ?_
      refine wl_gno rfl rfl rfl rfl ?_
      refine o_y (y_pick_f rfl rfl) rfl rfl ?_
      refine o_y (y_move rfl) rfl rfl ?_
      refine wl_gyes rfl rfl ?_
      refine o_y (y_move rfl) rfl rfl ?_
      refine o_y (y_pick_f rfl rfl) rfl rfl ?_
      refine wl_nil ?_
      refine e_seq ?_
      refine w_cond_f rfl ?_
      refine w_skip ?_
      refine e_seq ?_
      refine w_seq ?_
      refine w_seq ?_
      have hne : n ≠ [] := h0_1
      have hP : P0 s n = [] := if_neg (own_no hne (by omega))
      refine w_region ?_
      refine o_y (y_field fa_82_1 rfl) rfl rfl ?_
      refine o_y (y_loadSo 1 ty_59 rfl rfl rfl) rfl rfl ?_
      refine o_y (y_lenl Tryz.underlying59 rfl) rfl rfl ?_
      refine o_y (y_move rfl) rfl rfl ?_
      refine wl_nil ?_
      refine e_seq ?_
      refine w_block ?_
      refine w_heap (fun w h => h.weak (.cons _ (.cons_cons _ .slnil)) (fun s hs => hs)) ?_
      refine w_loop1 (σ := Nat × σ) [7, 8, 9, 35, 36, 37, 38, 39, 40, 41, 42, 43, 44, 45, 46, 47, 48, 49, 50, 51, 52, 53] (fun q => q.1 ≤ s.doms.length ∧ I (P0 s n ++ joins n (s.doms.take q.1)) q.2) (fun q => s.doms.length - q.1) (fun q => [(35, .int .i64 q.1)]) (fun q => C q.2) ((0, g0)) ?_ ⟨rfl, trivial⟩ rfl (fun q hI => ?_)
      · first
          | exact ⟨Nat.zero_le _, by rw [hP]; simpa [joins] using hT⟩
          | exact ⟨Nat.zero_le _, by rw [hP]; simpa [joins] using hg0⟩
      obtain ⟨k, g⟩ := q
      dsimp only at hI ⊢
      refine w_seq ?_
      refine w_region ?_
      refine o_y (y_lss rfl rfl) rfl rfl ?_
      refine wl_splitp (t := 36) rfl (fun h4_0 => ?_) (fun h4_0 => ?_)
      · skip
        refine wl_nil ?_
        refine e_seq ?_
        refine w_seq ?_
        refine w_cond_t rfl ?_
        refine w_skip ?_
        refine e_seq ?_
        refine w_seq ?_
        refine w_block ?_
        refine w_seq ?_
        refine w_region ?_
        refine o_y (y_ixm  Tryz.underlying59 ty_26 rfl rfl (rs_S 2 rfl) rfl (by omega)) rfl rfl ?_
        refine o_y (y_ldm0 enc_s ([] : Str) ty_26 rfl (rs_S 2 rfl) (by omega) rfl rfl) rfl rfl ?_
        refine o_y (y_assign rfl) rfl rfl ?_
        refine wl_nil ?_
        refine e_seq ?_
        refine w_seq ?_
        refine w_region ?_
        refine o_y (y_loadSo 0 ty_26 rfl rfl rfl) rfl rfl ?_
        refine o_y (y_move rfl) rfl rfl ?_
        refine o_callp rfl ent_66 (p_name_Join _ _ (by omega) (by have := hd _ (mem_getD (l := s.doms) (d := []) (k := k) (by omega)); omega)) rfl ?_
        refine o_y (y_move rfl) rfl rfl ?_
        refine o_y (y_extract rfl rfl) rfl rfl ?_
        refine o_y (y_extract rfl rfl) rfl rfl ?_
        refine o_y (y_assign rfl) rfl rfl ?_
        refine o_y (y_assign rfl) rfl rfl ?_
        refine wl_nil ?_
        refine e_seq ?_
        refine w_seq ?_
        refine w_region ?_
        refine o_y (y_move rfl) rfl rfl ?_
        refine o_y (y_eql rfl rfl) rfl rfl ?_
        refine wl_splitp (t := 46) rfl (fun h7_1 => ?_) (fun h7_1 => ?_)
        · skip
          have hk : k < s.doms.length := by omega
          have hx2 : cands s n = (P0 s n ++ joins n (s.doms.take k)) ++ (n ++ s.doms.getD k []) :: (joins n (s.doms.drop (k + 1)) ++ R0 s n) := by rw [cands_eq hne, joins_split hk h7_1]; simp
          refine wl_as (t := 8) (.string (ba (n ++ s.doms.getD k []))) rfl (congrArg (fun q => Value.string (ba q)) (join_good h7_1)) ?_
          refine o_y (y_move rfl) rfl rfl ?_
          refine wl_gyes rfl rfl ?_
          refine o_y (y_move rfl) rfl rfl ?_
          refine wl_gyes rfl rfl ?_
          refine o_y (y_move rfl) rfl rfl ?_
          refine wl_gyes rfl rfl ?_
          refine o_yield rfl rfl (hy _ _ _ g hx2 hI.2) (fun _ => .z) (fun s hs => List.mem_append_right _ hs) rfl (fun g' hT => ?_) (fun g' hF => ?_)
          · skip
            refine wl_gyes rfl rfl ?_
            refine o_y (y_not rfl) rfl rfl ?_
            refine o_y (y_pick_t rfl rfl) rfl rfl ?_
            refine wl_nil ?_
            refine e_seq ?_
            refine w_cond_f rfl ?_
            refine w_skip ?_
            refine e_blk ?_
            refine e_seq ?_
            refine w_region ?_
            refine o_y (y_addi rfl rfl (by omega) (by omega)) rfl rfl ?_
            refine o_y (y_move rfl) rfl rfl ?_
            refine wl_nil ?_
            refine e_back ((k + 1, g')) ?_ ?_ ⟨rfl, trivial⟩ (by repeat (first | exact trivial | refine ⟨rfl, ?_⟩)) (fun w h => h)
            · exact ⟨by show k + 1 ≤ _; omega, by show I (P0 s n ++ joins n (s.doms.take (k + 1))) _; rw [joins_yes hk h7_1, ← List.append_assoc]; exact hT⟩
            · show s.doms.length - (k + 1) < s.doms.length - k
              omega
          · skip
            refine wl_gyes rfl rfl ?_
            refine o_y (y_not rfl) rfl rfl ?_
            refine o_y (y_pick_t rfl rfl) rfl rfl ?_
            refine wl_nil ?_
            refine e_seq ?_
            refine w_cond_t rfl ?_
            refine w_ret ?_
            refine e_blk_ret ?_
            refine e_seq_ret ?_
            refine e_loop_ret ?_
            refine e_blk_ret ?_
            refine e_seq_ret ?_
            refine e_ret (ts := []) rfl rfl rfl (fun w hw => ?_)
            first
              | (have hz : n = [] := h0_1
                 exact iter_end _ (.inl (by rw [hz, cands_nil]; rw [hz] at hT; exact hT)) (hw.weak (.cons_cons _ .slnil) (fun s hs => hs)))
              | (have hz : n = [] := h0_1
                 exact iter_end _ (.inr ⟨[] ++ [n], [], by rw [hx0, List.append_nil], hF⟩) (hw.weak (.cons_cons _ .slnil) (fun s hs => hs)))
              | exact iter_end _ (.inr ⟨[] ++ [n], joins n s.doms ++ R0 s n, by rw [hx0]; rfl, hF⟩) (hw.weak (.cons_cons _ .slnil) (fun s hs => hs))
              | exact iter_end _ (.inl (by rw [hx3]; exact hT)) (hw.weak (.cons_cons _ .slnil) (fun s hs => hs))
              | exact iter_end _ (.inr ⟨_, [], by rw [hx3, List.append_nil], hF⟩) (hw.weak (.cons_cons _ .slnil) (fun s hs => hs))
              | exact iter_end _ (.inr ⟨_, joins n (s.doms.drop (k + 1)) ++ R0 s n, by rw [hx2, ← List.singleton_append, ← List.append_assoc], hF⟩) (hw.weak (.cons_cons _ .slnil) (fun s hs => hs))
              | exact iter_end _ (.inl (by rw [cands_eq hne, R0, if_pos (own_yes (by omega)), List.append_nil]; exact hI.2)) (hw.weak (.cons_cons _ .slnil) (fun s hs => hs))
              | (trace_state; fail)
        · skip
          refine o_y (y_move rfl) rfl rfl ?_
          refine wl_gno rfl rfl rfl rfl ?_
          refine wl_gno rfl rfl rfl rfl ?_
          refine wl_gno rfl rfl rfl rfl ?_
          refine wl_gno rfl rfl rfl rfl ?_
          refine o_y (y_pick_f rfl rfl) rfl rfl ?_
          refine wl_nil ?_
          refine e_seq ?_
          refine w_cond_f rfl ?_
          refine w_skip ?_
          refine e_blk ?_
          refine e_seq ?_
          refine w_region ?_
          refine o_y (y_addi rfl rfl (by omega) (by omega)) rfl rfl ?_
          refine o_y (y_move rfl) rfl rfl ?_
          refine wl_nil ?_
          refine e_back ((k + 1, g)) ?_ ?_ ⟨rfl, trivial⟩ (by repeat (first | exact trivial | refine ⟨rfl, ?_⟩)) (fun w h => h)
          · exact ⟨by show k + 1 ≤ _; omega, by show I (P0 s n ++ joins n (s.doms.take (k + 1))) _; rw [joins_no (by omega) h7_1]; exact hI.2⟩
          · show s.doms.length - (k + 1) < s.doms.length - k
            omega
      · skip
        refine wl_nil ?_
        refine e_seq ?_
        refine w_seq ?_
        refine w_cond_f rfl ?_
        refine w_exit ?_
        refine e_seq_exit ?_
        refine e_loop_exit ?_
        refine e_blk_hit ?_
        refine e_seq ?_
        refine w_seq ?_
        have hkl : k = s.doms.length := by omega
        subst hkl
        rw [List.take_length] at hI
        refine w_region ?_
        refine o_y (y_move rfl) rfl rfl ?_
        refine o_y (y_not rfl) rfl rfl ?_
        refine wl_nil ?_
        refine e_seq ?_
        refine w_cond_t rfl ?_
        have hx3 : cands s n = (P0 s n ++ joins n s.doms) ++ n :: [] := by rw [cands_eq hne, R0, if_neg (own_no hne (by omega))]
        refine w_region ?_
        refine o_y (y_move rfl) rfl rfl ?_
        refine o_y (y_loadSo 0 ty_26 rfl rfl rfl) rfl rfl ?_
        refine o_yield rfl rfl (hy _ n [] g hx3 hI.2) (fun _ => .z) (fun s hs => List.mem_append_right _ hs) rfl (fun g' hT => ?_) (fun g' hF => ?_)
        · skip
          refine wl_nil ?_
          refine e_end (ts := []) rfl rfl rfl (fun w hw => ?_)
          first
            | (have hz : n = [] := h0_1
               exact iter_end _ (.inl (by rw [hz, cands_nil]; rw [hz] at hT; exact hT)) (hw.weak (.cons_cons _ .slnil) (fun s hs => hs)))
            | (have hz : n = [] := h0_1
               exact iter_end _ (.inr ⟨[] ++ [n], [], by rw [hx0, List.append_nil], hF⟩) (hw.weak (.cons_cons _ .slnil) (fun s hs => hs)))
            | exact iter_end _ (.inr ⟨[] ++ [n], joins n s.doms ++ R0 s n, by rw [hx0]; rfl, hF⟩) (hw.weak (.cons_cons _ .slnil) (fun s hs => hs))
            | exact iter_end _ (.inl (by rw [hx3]; exact hT)) (hw.weak (.cons_cons _ .slnil) (fun s hs => hs))
            | exact iter_end _ (.inr ⟨_, [], by rw [hx3, List.append_nil], hF⟩) (hw.weak (.cons_cons _ .slnil) (fun s hs => hs))
            | exact iter_end _ (.inr ⟨_, joins n (s.doms.drop (k + 1)) ++ R0 s n, by rw [hx2, ← List.singleton_append, ← List.append_assoc], hF⟩) (hw.weak (.cons_cons _ .slnil) (fun s hs => hs))
            | exact iter_end _ (.inl (by rw [cands_eq hne, R0, if_pos (own_yes (by omega)), List.append_nil]; exact hI.2)) (hw.weak (.cons_cons _ .slnil) (fun s hs => hs))
            | (trace_state; fail)
        · skip
          refine wl_nil ?_
          refine e_end (ts := []) rfl rfl rfl (fun w hw => ?_)
          first
            | (have hz : n = [] := h0_1
               exact iter_end _ (.inl (by rw [hz, cands_nil]; rw [hz] at hT; exact hT)) (hw.weak (.cons_cons _ .slnil) (fun s hs => hs)))
            | (have hz : n = [] := h0_1
               exact iter_end _ (.inr ⟨[] ++ [n], [], by rw [hx0, List.append_nil], hF⟩) (hw.weak (.cons_cons _ .slnil) (fun s hs => hs)))
            | exact iter_end _ (.inr ⟨[] ++ [n], joins n s.doms ++ R0 s n, by rw [hx0]; rfl, hF⟩) (hw.weak (.cons_cons _ .slnil) (fun s hs => hs))
            | exact iter_end _ (.inl (by rw [hx3]; exact hT)) (hw.weak (.cons_cons _ .slnil) (fun s hs => hs))
            | exact iter_end _ (.inr ⟨_, [], by rw [hx3, List.append_nil], hF⟩) (hw.weak (.cons_cons _ .slnil) (fun s hs => hs))
            | exact iter_end _ (.inr ⟨_, joins n (s.doms.drop (k + 1)) ++ R0 s n, by rw [hx2, ← List.singleton_append, ← List.append_assoc], hF⟩) (hw.weak (.cons_cons _ .slnil) (fun s hs => hs))
            | exact iter_end _ (.inl (by rw [cands_eq hne, R0, if_pos (own_yes (by omega)), List.append_nil]; exact hI.2)) (hw.weak (.cons_cons _ .slnil) (fun s hs => hs))
            | (trace_state; fail)
end Go.Proofs.YtckfjfnkombelaaGreat
