/- the reference of candidates; the law of calls -/
import Derived.Test.YtckfjfnkombelaaGreatIe
namespace Go.Proofs.YtckfjfnkombelaaGreat
open Go.RowKit Go.Shelf
set_option linter.unusedVariables false
set_option linter.unusedSimpArgs false

theorem ent_10 : Enters Tryz.prog 10 := enters_of Tryz.func10 (by kernel_rfl) rfl
theorem ent_13 : Enters Tryz.prog 13 := enters_of Tryz.func13 (by kernel_rfl) rfl
theorem ent_15 : Enters Tryz.prog 15 := enters_of Tryz.func15 (by kernel_rfl) rfl
theorem ent_38 : Enters Tryz.prog 38 := enters_of Tryz.func38 (by kernel_rfl) rfl
theorem ent_39 : Enters Tryz.prog 39 := enters_of Tryz.func39 (by kernel_rfl) rfl
theorem ent_41 : Enters Tryz.prog 41 := enters_of Tryz.func41 (by kernel_rfl) rfl
theorem ent_42 : Enters Tryz.prog 42 := enters_of Tryz.func42 (by kernel_rfl) rfl
theorem ent_44 : Enters Tryz.prog 44 := enters_of Tryz.func44 (by kernel_rfl) rfl
theorem ent_45 : Enters Tryz.prog 45 := enters_of Tryz.func45 (by kernel_rfl) rfl
theorem ent_46 : Enters Tryz.prog 46 := enters_of Tryz.func46 (by kernel_rfl) rfl
theorem ent_7 : Enters Tryz.prog 7 := enters_of Tryz.func7 (by kernel_rfl) rfl
theorem ent_87 : Enters Tryz.prog 87 := enters_of Tryz.func87 (by kernel_rfl) rfl


theorem ded_has {x : Str} : ∀ {seen l : List Str}, x ∈ l → foldN x ∈ seen ∨ ∃ y ∈ ded seen l, foldN y = foldN x
  | seen, y :: r, h => by
    rw [ded]
    split
    · rcases List.mem_cons.1 h with rfl | h
      · exact .inl ‹_›
      · exact ded_has h
    · rcases List.mem_cons.1 h with rfl | h
      · exact .inr ⟨x, .head _, rfl⟩
      · rcases ded_has (seen := foldN y :: seen) h with h2 | ⟨z, hz, e⟩
        · rcases List.mem_cons.1 h2 with h3 | h3
          · exact .inr ⟨y, .head _, h3.symm⟩
          · exact .inl h3
        · exact .inr ⟨z, .tail _ hz, e⟩
theorem any_ded {l : List Str} {x : Str} (hl : ∀ y ∈ l, nameCk y = 0) (hx : nameCk x = 0) : ((ded [] l).any fun y => same2 y x) = decide (foldN x ∈ dedS [] l) := by
  rw [Bool.eq_iff_iff, List.any_eq_true, decide_eq_true_eq, dedS_mem]
  constructor
  · rintro ⟨y, hy, e⟩
    simp only [same2, Bool.and_eq_true, decide_eq_true_eq] at e
    exact .inr ⟨y, (ded_mem hy).1, e.2⟩
  · rintro (h | ⟨y, hy, e⟩)
    · cases h
    · rcases ded_has (seen := []) hy with h | ⟨z, hz, e2⟩
      · cases h
      · exact ⟨z, hz, same2_yes (hl _ (ded_mem hz).1) hx (e2.trans e)⟩
theorem any_succ' {l : List Str} {p : Str → Bool} {k : Nat} (hk : k < l.length) : (l.take (k + 1)).any p = ((l.take k).any p || p (l.getD k [])) := by
  rw [take_getD l [] k hk, List.any_append]; simp
theorem joins_succ {n : Str} {l : List Str} {k : Nat} (hk : k < l.length) : joins n (l.take (k + 1)) = joins n (l.take k) ++ (if joinE n (l.getD k []) = 0 then [n ++ l.getD k []] else []) := by
  rw [take_getD l [] k hk, joins, joins, List.filter_append, List.map_append]
  by_cases h : joinE n (l.getD k []) = 0
  · rw [if_pos h, List.filter_cons_of_pos (by simpa using h)]; rfl
  · rw [if_neg h, List.filter_cons_of_neg (by simpa using h)]; rfl
theorem joins_len2 (n : Str) (l : List Str) (k : Nat) : (joins n (l.take k)).length ≤ k := by
  have := joins_len n (l.take k); simp at this; omega
theorem each_nil {s : Sr} (h : Ok s []) : eachS s [] = [[]] := by rw [h.each]; rfl
theorem find_at {F : Str → Bool} {l : List Str} {i : Nat} (hi : i < l.length) (h : ∀ q, q < i → F (l.getD q []) = false) (h2 : F (l.getD i []) = true) : l.find? F = some (l.getD i []) := by
  have e : l = l.take i ++ l.getD i [] :: l.drop (i + 1) := by rw [← drop_getD _ [] i hi, List.take_append_drop]
  have h3 : (l.take i).find? F = none := by
    rw [List.find?_eq_none]
    intro y hy
    obtain ⟨q, hq, rfl⟩ := List.mem_iff_getElem.1 hy
    have hq2 : q < i := by simp at hq; omega
    have := h q hq2
    rw [List.getD_eq_getElem?_getD, List.getElem?_eq_getElem (by omega)] at this
    rw [List.getElem_take]
    simpa using this
  conv => lhs; rw [e]
  rw [List.find?_append, h3, List.find?_cons_of_pos (by simpa using h2)]
  rfl
theorem find_no {F : Str → Bool} {l : List Str} (h : ∀ q, q < l.length → F (l.getD q []) = false) : l.find? F = none := by
  rw [List.find?_eq_none]
  intro y hy
  obtain ⟨q, hq, rfl⟩ := List.mem_iff_getElem.1 hy
  have := h q hq
  rw [List.getD_eq_getElem?_getD, List.getElem?_eq_getElem hq] at this
  simpa using this
theorem no_nil {l : List Str} (h : ∀ i, i < l.length → l.getD i [] ≠ []) : ¬ ([] : Str) ∈ l := fun q => by
  obtain ⟨i, hi, e⟩ := List.mem_iff_getElem.1 q
  exact h i hi (by rw [List.getD_eq_getElem?_getD, List.getElem?_eq_getElem hi]; exact e)


theorem c_ref20_Check (s : Sr) (A : Option Addr) (c : Nat) : RC Tryz.prog 44 #[.agg (srC s A c).toArray] [Ch.rd A 1 encs s.doms] (α := Unit) (fun _ => .int .i64 (srCk s)) (fun _ => []) := by
  refine rc_of_W (args := [.agg (srC s A c).toArray]) 47 Tryz.func44 rfl rfl rfl (fun w0 => ?_)
  refine w_seq ?_
  refine w_region ?_
  refine o_box rfl rfl rfl (fun b1 => ?_)
  refine o_y (y_assign rfl) rfl rfl ?_
  refine wl_nil ?_
  refine e_seq ?_
  refine w_seq ?_
  refine w_seq ?_
  refine w_region ?_
  refine o_y (y_field fa_82_1 rfl) rfl rfl ?_
  refine o_y (y_loadr 0 ty_59 rfl rfl rfl) rfl rfl ?_
  refine o_y (y_lenl Tryz.underlying59 rfl) rfl rfl ?_
  refine o_y (y_gtr rfl rfl) rfl rfl ?_
  refine wl_splitp (t := 9) rfl (fun h1_3 => ?_) (fun h1_3 => ?_)
  · skip
    refine wl_nil ?_
    refine e_seq ?_
    refine w_cond_t rfl ?_
    refine w_seq ?_
    refine w_region ?_
    refine o_y (y_assign rfl) rfl rfl ?_
    refine wl_nil ?_
    refine e_seq ?_
    refine w_ret ?_
    refine e_seq_ret ?_
    refine e_ret (ts := [2]) rfl rfl rfl (fun w hw => ?_)
    refine ⟨(), ?_, hw.base, (hw.weak (List.nil_sublist _) (fun s hs => hs)).toNews⟩
    show Ending.returned (.int _ _) = _
    congr 2
    first
      | (rw [srCk, if_pos (by omega)]
         done)
      | (rw [srCk, if_neg (by omega), if_pos (by omega)]
         exact hd1.symm)
      | (rw [srCk, if_neg (by omega), if_neg (by omega), if_neg (fun q => q.elim (fun q => hnn q) (fun q => by omega))]
         done)
      | (rw [srCk, if_neg (by omega), if_neg (by omega), if_pos (by first | exact .inl hyn | exact .inr (.inl (by omega)) | exact .inr (.inr (by omega)))]
         done)
      | (trace_state; fail)
  · skip
    refine wl_nil ?_
    refine e_seq ?_
    refine w_cond_f rfl ?_
    refine w_skip ?_
    refine e_seq ?_
    refine w_seq ?_
    refine w_seq ?_
    refine w_region ?_
    refine o_y (y_assign rfl) rfl rfl ?_
    refine wl_nil ?_
    refine e_seq ?_
    refine w_block ?_
    refine w_loop0 (σ := Nat) [2, 3, 4, 10, 11, 12, 13, 14, 15, 16, 17, 18, 19, 20, 21, 22, 23, 24, 25] (fun k => k ≤ s.doms.length ∧ domsCk s.doms = domsCk (s.doms.drop k)) (fun k => s.doms.length - k) (fun k => [(3, .int .i64 k)]) (0) ?_ ⟨rfl, trivial⟩ (fun k hI => ?_)
    · exact ⟨Nat.zero_le _, rfl⟩
    refine w_seq ?_
    refine w_seq ?_
    refine w_region ?_
    refine o_y (y_move rfl) rfl rfl ?_
    refine o_y (y_field fa_82_1 rfl) rfl rfl ?_
    refine o_y (y_loadr 0 ty_59 rfl rfl rfl) rfl rfl ?_
    refine o_y (y_lenl Tryz.underlying59 rfl) rfl rfl ?_
    refine o_y (y_lss rfl rfl) rfl rfl ?_
    refine wl_splitp (t := 14) rfl (fun h4_4 => ?_) (fun h4_4 => ?_)
    · skip
      refine wl_nil ?_
      refine e_seq ?_
      refine w_cond_t rfl ?_
      refine w_skip ?_
      refine e_seq ?_
      refine w_seq ?_
      refine w_block ?_
      refine w_seq ?_
      refine w_region ?_
      refine o_y (y_field fa_82_1 rfl) rfl rfl ?_
      refine o_y (y_loadr 0 ty_59 rfl rfl rfl) rfl rfl ?_
      refine o_y (y_move rfl) rfl rfl ?_
      refine o_y (y_ixm  Tryz.underlying59 ty_26 rfl rfl (rs_S 0 rfl) rfl (by omega)) rfl rfl ?_
      refine o_y (y_ldm0 enc_s ([] : Str) ty_26 rfl (rs_S 0 rfl) (by omega) rfl rfl) rfl rfl ?_
      refine o_callp rfl ent_80 (c_ref02_Check _) rfl ?_
      refine o_y (y_assign rfl) rfl rfl ?_
      refine wl_nil ?_
      refine e_seq ?_
      refine w_seq ?_
      refine w_region ?_
      refine o_y (y_move rfl) rfl rfl ?_
      refine o_y (y_neq rfl rfl) rfl rfl ?_
      refine wl_splitp (t := 24) rfl (fun h7_1 => ?_) (fun h7_1 => ?_)
      · skip
        refine wl_nil ?_
        refine e_seq ?_
        refine w_cond_t rfl ?_
        refine w_seq ?_
        have hk : k < s.doms.length := by omega
        have hdk := drop_getD s.doms [] k hk
        have hd1 : domsCk s.doms = nameCk (s.doms.getD k []) := by rw [hI.2, hdk, domsCk, if_pos h7_1]
        refine w_region ?_
        refine o_y (y_move rfl) rfl rfl ?_
        refine o_y (y_assign rfl) rfl rfl ?_
        refine wl_nil ?_
        refine e_seq ?_
        refine w_ret ?_
        refine e_blk_ret ?_
        refine e_seq_ret ?_
        refine e_loop_ret ?_
        refine e_blk_ret ?_
        refine e_seq_ret ?_
        refine e_ret (ts := [2]) rfl rfl rfl (fun w hw => ?_)
        refine ⟨(), ?_, hw.base, (hw.weak (List.nil_sublist _) (fun s hs => hs)).toNews⟩
        show Ending.returned (.int _ _) = _
        congr 2
        first
          | (rw [srCk, if_pos (by omega)]
             done)
          | (rw [srCk, if_neg (by omega), if_pos (by omega)]
             exact hd1.symm)
          | (rw [srCk, if_neg (by omega), if_neg (by omega), if_neg (fun q => q.elim (fun q => hnn q) (fun q => by omega))]
             done)
          | (rw [srCk, if_neg (by omega), if_neg (by omega), if_pos (by first | exact .inl hyn | exact .inr (.inl (by omega)) | exact .inr (.inr (by omega)))]
             done)
          | (trace_state; fail)
      · skip
        refine wl_nil ?_
        refine e_seq ?_
        refine w_cond_f rfl ?_
        refine w_skip ?_
        refine e_blk ?_
        refine e_seq ?_
        refine w_region ?_
        refine o_y (y_move rfl) rfl rfl ?_
        refine o_y (y_addi rfl rfl (by omega) (by omega)) rfl rfl ?_
        refine o_y (y_assign rfl) rfl rfl ?_
        refine wl_nil ?_
        have hk : k < s.doms.length := by omega
        have hdk := drop_getD s.doms [] k hk
        refine e_back (k + 1) ?_ ?_ ⟨rfl, trivial⟩ (by repeat (first | exact trivial | refine ⟨rfl, ?_⟩)) (fun w h => h)
        · exact ⟨by omega, by rw [hI.2, hdk, domsCk, if_neg (by omega)]⟩
        · omega
    · skip
      refine wl_nil ?_
      refine e_seq ?_
      refine w_cond_f rfl ?_
      refine w_exit ?_
      refine e_seq_exit ?_
      refine e_loop_exit ?_
      refine e_blk_hit ?_
      refine e_seq ?_
      refine w_seq ?_
      refine w_seq ?_
      have hd0 : domsCk s.doms = 0 := by rw [hI.2, List.drop_of_length_le (by omega)]; rfl
      refine w_region ?_
      refine o_y (y_assign rfl) rfl rfl ?_
      refine wl_nil ?_
      refine e_seq ?_
      refine w_block ?_
      refine w_loop0 (σ := Nat) [2, 5, 26, 27, 28, 29, 30, 31, 32, 33, 34, 35, 36, 37, 38] (fun j => j ≤ s.doms.length ∧ ∀ i, i < j → s.doms.getD i [] ≠ []) (fun j => s.doms.length - j) (fun j => [(5, .int .i64 j)]) (0) ?_ ⟨rfl, trivial⟩ (fun j hI => ?_)
      · exact ⟨Nat.zero_le _, nofun⟩
      refine w_seq ?_
      refine w_seq ?_
      refine w_region ?_
      refine o_y (y_move rfl) rfl rfl ?_
      refine o_y (y_field fa_82_1 rfl) rfl rfl ?_
      refine o_y (y_loadr 0 ty_59 rfl rfl rfl) rfl rfl ?_
      refine o_y (y_lenl Tryz.underlying59 rfl) rfl rfl ?_
      refine o_y (y_lss rfl rfl) rfl rfl ?_
      refine wl_splitp (t := 30) rfl (fun h10_4 => ?_) (fun h10_4 => ?_)
      · skip
        refine wl_nil ?_
        refine e_seq ?_
        refine w_cond_t rfl ?_
        refine w_skip ?_
        refine e_seq ?_
        refine w_seq ?_
        refine w_block ?_
        refine w_seq ?_
        refine w_region ?_
        refine o_y (y_field fa_82_1 rfl) rfl rfl ?_
        refine o_y (y_loadr 0 ty_59 rfl rfl rfl) rfl rfl ?_
        refine o_y (y_move rfl) rfl rfl ?_
        refine o_y (y_ixm  Tryz.underlying59 ty_26 rfl rfl (rs_S 0 rfl) rfl (by omega)) rfl rfl ?_
        refine o_y (y_ldm0 enc_s ([] : Str) ty_26 rfl (rs_S 0 rfl) (by omega) rfl rfl) rfl rfl ?_
        refine o_y (y_eqls rfl rfl) rfl rfl ?_
        refine wl_splitp (t := 38) rfl (fun h12_5 => ?_) (fun h12_5 => ?_)
        · skip
          refine wl_nil ?_
          refine e_seq ?_
          refine w_cond_t rfl ?_
          refine w_seq ?_
          have hyn : ([] : Str) ∈ s.doms := by rw [← h12_5]; exact mem_getD (by omega)
          refine w_region ?_
          refine o_y (y_assign rfl) rfl rfl ?_
          refine wl_nil ?_
          refine e_seq ?_
          refine w_ret ?_
          refine e_blk_ret ?_
          refine e_seq_ret ?_
          refine e_loop_ret ?_
          refine e_blk_ret ?_
          refine e_seq_ret ?_
          refine e_ret (ts := [2]) rfl rfl rfl (fun w hw => ?_)
          refine ⟨(), ?_, hw.base, (hw.weak (List.nil_sublist _) (fun s hs => hs)).toNews⟩
          show Ending.returned (.int _ _) = _
          congr 2
          first
            | (rw [srCk, if_pos (by omega)]
               done)
            | (rw [srCk, if_neg (by omega), if_pos (by omega)]
               exact hd1.symm)
            | (rw [srCk, if_neg (by omega), if_neg (by omega), if_neg (fun q => q.elim (fun q => hnn q) (fun q => by omega))]
               done)
            | (rw [srCk, if_neg (by omega), if_neg (by omega), if_pos (by first | exact .inl hyn | exact .inr (.inl (by omega)) | exact .inr (.inr (by omega)))]
               done)
            | (trace_state; fail)
        · skip
          refine wl_nil ?_
          refine e_seq ?_
          refine w_cond_f rfl ?_
          refine w_skip ?_
          refine e_blk ?_
          refine e_seq ?_
          refine w_region ?_
          refine o_y (y_move rfl) rfl rfl ?_
          refine o_y (y_addi rfl rfl (by omega) (by omega)) rfl rfl ?_
          refine o_y (y_assign rfl) rfl rfl ?_
          refine wl_nil ?_
          refine e_back (j + 1) ?_ ?_ ⟨rfl, trivial⟩ (by repeat (first | exact trivial | refine ⟨rfl, ?_⟩)) (fun w h => h)
          · exact ⟨by omega, all_succ hI.2 (by assumption)⟩
          · omega
      · skip
        refine wl_nil ?_
        refine e_seq ?_
        refine w_cond_f rfl ?_
        refine w_exit ?_
        refine e_seq_exit ?_
        refine e_loop_exit ?_
        refine e_blk_hit ?_
        refine e_seq ?_
        refine w_seq ?_
        refine w_seq ?_
        have hnn := no_nil (l := s.doms) (fun i hi => hI.2 i (by omega))
        refine w_region ?_
        refine o_y (y_field fa_82_0 rfl) rfl rfl ?_
        refine o_y (y_loadr 0 ty_3 rfl rfl rfl) rfl rfl ?_
        refine o_y (y_lss rfl rfl) rfl rfl ?_
        refine wl_splitp (t := 41) rfl (fun h14_2 => ?_) (fun h14_2 => ?_)
        · skip
          refine o_y (y_move rfl) rfl rfl ?_
          refine wl_gno rfl rfl rfl rfl ?_
          refine wl_gno rfl rfl rfl rfl ?_
          refine wl_gno rfl rfl rfl rfl ?_
          refine o_y (y_pick_t rfl rfl) rfl rfl ?_
          refine wl_nil ?_
          refine e_seq ?_
          refine w_cond_t rfl ?_
          refine w_seq ?_
          refine w_region ?_
          refine o_y (y_assign rfl) rfl rfl ?_
          refine wl_nil ?_
          refine e_seq ?_
          refine w_ret ?_
          refine e_seq_ret ?_
          refine e_ret (ts := [2]) rfl rfl rfl (fun w hw => ?_)
          refine ⟨(), ?_, hw.base, (hw.weak (List.nil_sublist _) (fun s hs => hs)).toNews⟩
          show Ending.returned (.int _ _) = _
          congr 2
          first
            | (rw [srCk, if_pos (by omega)]
               done)
            | (rw [srCk, if_neg (by omega), if_pos (by omega)]
               exact hd1.symm)
            | (rw [srCk, if_neg (by omega), if_neg (by omega), if_neg (fun q => q.elim (fun q => hnn q) (fun q => by omega))]
               done)
            | (rw [srCk, if_neg (by omega), if_neg (by omega), if_pos (by first | exact .inl hyn | exact .inr (.inl (by omega)) | exact .inr (.inr (by omega)))]
               done)
            | (trace_state; fail)
        · skip
          refine o_y (y_move rfl) rfl rfl ?_
          refine wl_gyes rfl rfl ?_
          refine o_y (y_field fa_82_0 rfl) rfl rfl ?_
          refine wl_gyes rfl rfl ?_
          refine o_y (y_loadr 0 ty_3 rfl rfl rfl) rfl rfl ?_
          refine wl_gyes rfl rfl ?_
          refine o_y (y_gtr rfl rfl) rfl rfl ?_
          refine wl_splitp (t := 45) rfl (fun h14_6 => ?_) (fun h14_6 => ?_)
          · skip
            refine o_y (y_pick_f rfl rfl) rfl rfl ?_
            refine wl_nil ?_
            refine e_seq ?_
            refine w_cond_t rfl ?_
            refine w_seq ?_
            refine w_region ?_
            refine o_y (y_assign rfl) rfl rfl ?_
            refine wl_nil ?_
            refine e_seq ?_
            refine w_ret ?_
            refine e_seq_ret ?_
            refine e_ret (ts := [2]) rfl rfl rfl (fun w hw => ?_)
            refine ⟨(), ?_, hw.base, (hw.weak (List.nil_sublist _) (fun s hs => hs)).toNews⟩
            show Ending.returned (.int _ _) = _
            congr 2
            first
              | (rw [srCk, if_pos (by omega)]
                 done)
              | (rw [srCk, if_neg (by omega), if_pos (by omega)]
                 exact hd1.symm)
              | (rw [srCk, if_neg (by omega), if_neg (by omega), if_neg (fun q => q.elim (fun q => hnn q) (fun q => by omega))]
                 done)
              | (rw [srCk, if_neg (by omega), if_neg (by omega), if_pos (by first | exact .inl hyn | exact .inr (.inl (by omega)) | exact .inr (.inr (by omega)))]
                 done)
              | (trace_state; fail)
          · skip
            refine o_y (y_pick_f rfl rfl) rfl rfl ?_
            refine wl_nil ?_
            refine e_seq ?_
            refine w_cond_f rfl ?_
            refine w_skip ?_
            refine e_seq ?_
            refine w_seq ?_
            refine w_region ?_
            refine o_y (y_assign rfl) rfl rfl ?_
            refine wl_nil ?_
            refine e_seq ?_
            refine w_ret ?_
            refine e_ret (ts := [2]) rfl rfl rfl (fun w hw => ?_)
            refine ⟨(), ?_, hw.base, (hw.weak (List.nil_sublist _) (fun s hs => hs)).toNews⟩
            show Ending.returned (.int _ _) = _
            congr 2
            first
              | (rw [srCk, if_pos (by omega)]
                 done)
              | (rw [srCk, if_neg (by omega), if_pos (by omega)]
                 exact hd1.symm)
              | (rw [srCk, if_neg (by omega), if_neg (by omega), if_neg (fun q => q.elim (fun q => hnn q) (fun q => by omega))]
                 done)
              | (rw [srCk, if_neg (by omega), if_neg (by omega), if_pos (by first | exact .inl hyn | exact .inr (.inl (by omega)) | exact .inr (.inr (by omega)))]
                 done)
              | (trace_state; fail)

set_option maxRecDepth 100000 in
set_option maxHeartbeats 1000000 in
theorem c_ref20_Names (s : Sr) (A : Option Addr) (c : Nat) (n : Str) (hnl : n.length ≤ 1000000000) : RC Tryz.prog 41 #[.agg (srC s A c).toArray, .string (ba n)] [Ch.rd A 1 encs s.doms] (α := Option Addr × Nat) (fun p => .tuple #[.slice p.1 (eachS s n).length p.2, .int .i64 (namesE s n)]) (fun p => [Ch.ls p.1 p.2 26 1 encs (eachS s n)]) := by
  refine rc_of_W (args := [.agg (srC s A c).toArray, .string (ba n)]) 104 Tryz.func41 rfl rfl rfl (fun w0 => ?_)
  refine w_seq ?_
  refine w_region ?_
  refine o_box rfl rfl rfl (fun b1 => ?_)
  refine o_y (y_assign rfl) rfl rfl ?_
  refine o_y (y_assign rfl) rfl rfl ?_
  refine wl_nil ?_
  refine e_seq ?_
  refine w_seq ?_
  refine w_region ?_
  refine o_y (y_loadrs 0 ty_82 rfl rfl rfl rfl) rfl rfl ?_
  refine o_callq rfl ent_44 rfl (c_ref20_Check _ _ _) (fun w hw => (rd_cons (rd_S 0 rfl hw) rd_nil)) ?_
  refine o_y (y_assign rfl) rfl rfl ?_
  refine wl_nil ?_
  refine e_seq ?_
  refine w_seq ?_
  refine w_seq ?_
  refine w_region ?_
  refine o_y (y_move rfl) rfl rfl ?_
  refine o_y (y_eql rfl rfl) rfl rfl ?_
  refine wl_splitp (t := 19) rfl (fun h2_1 => ?_) (fun h2_1 => ?_)
  · skip
    refine wl_nil ?_
    refine e_seq ?_
    refine w_cond_t rfl ?_
    refine w_region ?_
    refine o_y (y_move rfl) rfl rfl ?_
    refine o_callp rfl ent_80 (c_ref02_Check _) rfl ?_
    refine o_y (y_assign rfl) rfl rfl ?_
    refine wl_nil ?_
    refine e_seq ?_
    refine w_seq ?_
    refine w_seq ?_
    refine w_region ?_
    refine o_y (y_move rfl) rfl rfl ?_
    refine o_y (y_neq rfl rfl) rfl rfl ?_
    refine wl_splitp (t := 23) rfl (fun h4_1 => ?_) (fun h4_1 => ?_)
    · skip
      refine wl_nil ?_
      refine e_seq ?_
      refine w_cond_t rfl ?_
      refine w_seq ?_
      refine w_region ?_
      refine o_y (y_move rfl) rfl rfl ?_
      refine o_y (y_assign rfl) rfl rfl ?_
      refine o_y (y_assign rfl) rfl rfl ?_
      refine wl_nil ?_
      refine e_seq ?_
      refine w_ret ?_
      refine e_seq_ret ?_
      refine e_ret (ts := [4, 5]) rfl rfl rfl (fun w hw => ?_)
      first
        | (have hE : eachS s n = [] := each_bad (.inl h2_1)
           have hF : namesE s n = srCk s := if_pos h2_1
           exact ⟨(none, 0), by rw [hE, hF]; rfl, hw.base, by rw [hE]; exact ((hw.weak (List.nil_sublist _) (fun s hs => hs)).nilsl 26 1).toNews⟩)
        | (have hE : eachS s n = [] := each_bad (.inr h4_1)
           have hF : namesE s n = nameCk n := if_neg (fun q => q h2_1)
           exact ⟨(none, 0), by rw [hE, hF]; rfl, hw.base, by rw [hE]; exact ((hw.weak (List.nil_sublist _) (fun s hs => hs)).nilsl 26 1).toNews⟩)
        | (trace_state; fail)
    · skip
      refine wl_nil ?_
      refine e_seq ?_
      refine w_cond_f rfl ?_
      refine w_skip ?_
      refine e_seq ?_
      refine w_seq ?_
      refine w_seq ?_
      have hok : Ok s n := ⟨by omega, by omega⟩
      obtain ⟨hb1, hb2, hb3, hb4⟩ := hok.bnds
      have hll := (labsN_le n hnl).1
      refine w_region ?_
      refine o_y (y_move rfl) rfl rfl ?_
      refine o_y (y_eqls rfl rfl) rfl rfl ?_
      refine wl_splitp (t := 26) rfl (fun h6_1 => ?_) (fun h6_1 => ?_)
      · skip
        refine wl_nil ?_
        refine e_seq ?_
        refine w_cond_t rfl ?_
        refine w_seq ?_
        refine w_region ?_
        refine o_y (y_move rfl) rfl rfl ?_
        refine o_bsl (vs := [_]) ([n] : List (Str)) enc_s Tryz.underlying59 ty_26 rfl rfl rfl rfl rfl rfl (fun As2 => ?_)
        refine o_y (y_assign rfl) rfl rfl ?_
        refine o_y (y_assign rfl) rfl rfl ?_
        refine wl_nil ?_
        refine e_seq ?_
        refine w_ret ?_
        refine e_seq_ret ?_
        refine e_ret (ts := [4, 5]) rfl rfl rfl (fun w hw => ?_)
        subst h6_1
        have hE := each_nil hok
        exact ⟨(As2, 1), by rw [hok.names, hE]; rfl, hw.base, by rw [hE]; exact (hw.weak (.cons_cons _ (.cons _ .slnil)) (fun s hs => hs)).toNews⟩
      · skip
        refine wl_nil ?_
        refine e_seq ?_
        refine w_cond_f rfl ?_
        refine w_skip ?_
        refine e_seq ?_
        refine w_seq ?_
        refine w_region ?_
        refine o_y (y_assign rfl) rfl rfl ?_
        refine wl_nil ?_
        refine e_seq ?_
        refine w_seq ?_
        refine w_draw 8 rfl mixed ?_
        refine a_take (i := 0) rfl wanted_none (y_move rfl) (fun w h => h) (fun w h => h) rfl (pk_seq pk_fn) (by kernel_rfl) rfl ?_
        refine a_take (i := 4) rfl wanted_none (y_field fa_82_0 rfl) (fun w h => h) (fun w h => h) rfl (pk_seq pk_fn) (by kernel_rfl) rfl ?_
        refine a_take (i := 5) rfl wanted_none (y_loadr 0 ty_3 rfl rfl rfl) (fun w h => h) (fun w h => h) rfl (pk_seq pk_fn) (by kernel_rfl) rfl ?_
        refine a_one (i := 1) rfl rfl rfl (tame_call rfl ent_68) (by kernel_rfl) rfl ?_
        refine o_callr1 rfl ent_68 rfl (c_ref02_Labels _) (fun w hw => rd_nil) (fun ⟨A2, c2⟩ => ?_)
        refine wl_nil ?_
        refine e_one (fun w h => h.weak (.cons _ (List.Sublist.refl _)) (fun s hs => hs)) ?_
        refine a_take (i := 2) rfl wanted_none (y_lenl Tryz.underlying71 rfl) (fun w h => h.weak (.cons _ (List.Sublist.refl _)) (fun s hs => hs)) (fun w h => h) rfl (pk_seq pk_fn) (by kernel_rfl) rfl ?_
        refine a_take (i := 3) rfl wanted_none (y_subi rfl rfl (by omega) (by omega)) (fun w h => h.weak (.cons _ (List.Sublist.refl _)) (fun s hs => hs)) (fun w h => h) rfl (pk_seq pk_fn) (by kernel_rfl) rfl ?_
        refine a_take (i := 6) rfl wanted_none (y_geq rfl rfl) (fun w h => h.weak (.cons _ (List.Sublist.refl _)) (fun s hs => hs)) (fun w h => h) rfl (pk_seq pk_fn) (by kernel_rfl) rfl ?_
        refine wa_splitp (t := 35) rfl (fun h9_6 => ?_) (fun h9_6 => ?_)
        · skip
          refine a_take (i := 7) rfl wanted_none (y_assign rfl) (fun w h => h.weak (.cons _ (List.Sublist.refl _)) (fun s hs => hs)) (fun w h => h) rfl (pk_seq pk_fn) (by kernel_rfl) rfl ?_
          refine a_done (by kernel_rfl) ?_
          refine e_seq ?_
          refine w_seq ?_
          refine w_seq ?_
          have hown : ownS s n := .inr (by omega)
          refine w_region ?_
          refine o_y (y_move rfl) rfl rfl ?_
          refine wl_nil ?_
          refine e_seq ?_
          refine w_cond_t rfl ?_
          refine w_region ?_
          refine o_y (y_move rfl) rfl rfl ?_
          refine o_y (y_move rfl) rfl rfl ?_
          refine o_bsl (vs := [_]) ([n] : List (Str)) enc_s Tryz.underlying59 ty_26 rfl rfl rfl rfl rfl rfl (fun As4 => ?_)
          refine wl_heap (fun w h => h.nilsl 26 1) ?_
          refine o_appm (xs := ([] : List (Str))) (enc := encs) (sz := 1) _ Tryz.underlying59 ty_26 rfl rfl rfl (fun A c => .z) (src_L 1 Tryz.underlying59 rfl) (by simp only [List.length_cons, List.length_nil, Nat.zero_add]; omega) (by simp only [List.length_cons, List.length_nil, Nat.zero_add]; omega) rfl (fun A5 c5 => ?_)
          refine o_y (y_assign rfl) rfl rfl ?_
          refine wl_nil ?_
          refine e_seq ?_
          refine w_seq ?_
          refine w_seq ?_
          refine w_region ?_
          refine o_y (y_assign rfl) rfl rfl ?_
          refine wl_nil ?_
          refine e_seq ?_
          refine w_block ?_
          refine w_loop1 (σ := Nat × List Str × Option Addr × Nat) [7, 9, 10, 11, 41, 42, 43, 44, 45, 46, 47, 48, 49, 50, 51, 52, 53, 54, 55, 56, 57, 58, 59, 60, 61, 62, 63] (fun q => q.1 ≤ s.doms.length ∧ q.2.1 = (if ownS s n then [n] else []) ++ joins n (s.doms.take q.1) ∧ q.2.1.length ≤ q.1 + 1) (fun q => s.doms.length - q.1) (fun q => [(9, .int .i64 q.1), (7, .slice q.2.2.1 q.2.1.length q.2.2.2)]) (fun q => Ch.ls q.2.2.1 q.2.2.2 26 1 encs q.2.1) ((0, [n], A5, c5)) ?_ ⟨rfl, rfl, trivial⟩ rfl (fun q hI => ?_)
          · first
              | exact ⟨Nat.zero_le _, by rw [if_pos hown]; rfl, by simp⟩
              | exact ⟨Nat.zero_le _, by rw [if_neg hown]; rfl, by simp⟩
          obtain ⟨k, acc, A7, c7⟩ := q
          dsimp only at hI ⊢
          refine w_seq ?_
          refine w_seq ?_
          refine w_region ?_
          refine o_y (y_move rfl) rfl rfl ?_
          refine o_y (y_field fa_82_1 rfl) rfl rfl ?_
          refine o_y (y_loadr 3 ty_59 rfl rfl rfl) rfl rfl ?_
          refine o_y (y_lenl Tryz.underlying59 rfl) rfl rfl ?_
          refine o_y (y_lss rfl rfl) rfl rfl ?_
          refine wl_splitp (t := 45) rfl (fun h13_4 => ?_) (fun h13_4 => ?_)
          · skip
            refine wl_nil ?_
            refine e_seq ?_
            refine w_cond_t rfl ?_
            refine w_skip ?_
            refine e_seq ?_
            refine w_seq ?_
            refine w_block ?_
            refine w_seq ?_
            have hk1 : k < s.doms.length := by omega
            have hjl := hb3 _ (mem_getD (d := ([] : Str)) hk1)
            refine w_region ?_
            refine o_y (y_move rfl) rfl rfl ?_
            refine o_y (y_field fa_82_1 rfl) rfl rfl ?_
            refine o_y (y_loadr 3 ty_59 rfl rfl rfl) rfl rfl ?_
            refine o_y (y_move rfl) rfl rfl ?_
            refine o_y (y_ixm  Tryz.underlying59 ty_26 rfl rfl (rs_S 0 rfl) rfl (by omega)) rfl rfl ?_
            refine o_y (y_ldm0 enc_s ([] : Str) ty_26 rfl (rs_S 0 rfl) (by omega) rfl rfl) rfl rfl ?_
            refine o_callp rfl ent_87 (c_ref02_Join _ _ (by omega) (by omega)) rfl ?_
            refine o_y (y_move rfl) rfl rfl ?_
            refine o_y (y_extract rfl rfl) rfl rfl ?_
            refine o_y (y_extract rfl rfl) rfl rfl ?_
            refine o_y (y_assign rfl) rfl rfl ?_
            refine o_y (y_assign rfl) rfl rfl ?_
            refine wl_nil ?_
            refine e_seq ?_
            refine w_seq ?_
            refine w_region ?_
            refine o_y (y_move rfl) rfl rfl ?_
            refine o_y (y_eql rfl rfl) rfl rfl ?_
            refine wl_splitp (t := 59) rfl (fun h16_1 => ?_) (fun h16_1 => ?_)
            · skip
              refine wl_nil ?_
              refine e_seq ?_
              refine w_cond_t rfl ?_
              refine w_region ?_
              refine o_y (y_move rfl) rfl rfl ?_
              refine o_y (y_move rfl) rfl rfl ?_
              refine o_bsl (vs := [_]) ([joinN n (s.doms.getD k [])] : List (Str)) enc_s Tryz.underlying59 ty_26 rfl rfl rfl rfl rfl rfl (fun As7 => ?_)
              refine o_appm (enc := encs) (sz := 1) _ Tryz.underlying59 ty_26 rfl rfl rfl (fun A c => (.s (.z))) (src_L 0 Tryz.underlying59 rfl) (by simp only [List.length_cons, List.length_nil, Nat.zero_add]; omega) (by simp only [List.length_cons, List.length_nil, Nat.zero_add]; omega) rfl (fun A7 c7 => ?_)
              refine o_y (y_assign rfl) rfl rfl ?_
              refine wl_nil ?_
              refine e_blk ?_
              refine e_seq ?_
              refine w_region ?_
              refine o_y (y_move rfl) rfl rfl ?_
              refine o_y (y_addi rfl rfl (by omega) (by omega)) rfl rfl ?_
              refine o_y (y_assign rfl) rfl rfl ?_
              refine wl_nil ?_
              refine e_back ((k + 1, acc ++ [joinN n (s.doms.getD k [])], A7, c7)) ?_ ?_ ⟨rfl, rfl, trivial⟩ (by repeat (first | exact trivial | refine ⟨rfl, ?_⟩)) (fun w h => h.weak (.cons _ (List.Sublist.refl _)) (fun s hs => hs))
              · exact ⟨by show k + 1 ≤ _; omega, by show _ = _ ++ joins n (s.doms.take (k + 1)); rw [joins_succ hk1, if_pos h16_1, join_good h16_1, ← List.append_assoc, ← hI.2.1], by show (acc ++ [_]).length ≤ k + 1 + 1; simp; omega⟩
              · show s.doms.length - (k + 1) < s.doms.length - k
                omega
            · skip
              refine wl_nil ?_
              refine e_seq ?_
              refine w_cond_f rfl ?_
              refine w_skip ?_
              refine e_blk ?_
              refine e_seq ?_
              refine w_region ?_
              refine o_y (y_move rfl) rfl rfl ?_
              refine o_y (y_addi rfl rfl (by omega) (by omega)) rfl rfl ?_
              refine o_y (y_assign rfl) rfl rfl ?_
              refine wl_nil ?_
              refine e_back ((k + 1, acc, A7, c7)) ?_ ?_ ⟨rfl, rfl, trivial⟩ (by repeat (first | exact trivial | refine ⟨rfl, ?_⟩)) (fun w h => h)
              · exact ⟨by show k + 1 ≤ _; omega, by show _ = _ ++ joins n (s.doms.take (k + 1)); rw [joins_succ hk1, if_neg h16_1, List.append_nil]; exact hI.2.1, by show acc.length ≤ k + 1 + 1; omega⟩
              · show s.doms.length - (k + 1) < s.doms.length - k
                omega
          · skip
            refine wl_nil ?_
            refine e_seq ?_
            refine w_cond_f rfl ?_
            refine w_exit ?_
            refine e_seq_exit ?_
            refine e_loop_exit ?_
            refine e_blk_hit ?_
            refine e_seq ?_
            refine w_seq ?_
            refine w_seq ?_
            refine w_region ?_
            refine o_y (y_move rfl) rfl rfl ?_
            refine o_y (y_not rfl) rfl rfl ?_
            refine wl_nil ?_
            refine e_seq ?_
            refine w_cond_f rfl ?_
            refine w_skip ?_
            refine e_seq ?_
            refine w_seq ?_
            have hk9 : k = s.doms.length := by omega
            subst hk9
            obtain rfl : acc = cands s n := by rw [hI.2.1, List.take_length, if_pos hown, cands, if_neg h6_1, if_pos hown]; rfl
            refine w_region ?_
            refine o_y (y_assign rfl) rfl rfl ?_
            refine wl_nil ?_
            refine e_seq ?_
            refine w_seq ?_
            refine w_seq ?_
            refine w_region ?_
            refine o_y (y_assign rfl) rfl rfl ?_
            refine wl_nil ?_
            refine e_seq ?_
            refine w_block ?_
            have hcl := cands_len s n
            refine w_heap (fun w h => h.nilsl 26 1) ?_
            refine w_loop1 (σ := Nat × List Str × Option Addr × Nat) [12, 13, 14, 15, 70, 71, 72, 73, 74, 75, 76, 77, 78, 79, 80, 81, 82, 83, 84, 85, 86, 87, 88, 89, 90, 91, 92, 93, 94, 95, 96, 97, 98, 99, 100, 101, 102] (fun q => q.1 ≤ (cands s n).length ∧ q.2.1 = ded [] ((cands s n).take q.1) ∧ q.2.1.length ≤ q.1) (fun q => (cands s n).length - q.1) (fun q => [(13, .int .i64 q.1), (12, .slice q.2.2.1 q.2.1.length q.2.2.2)]) (fun q => Ch.ls q.2.2.1 q.2.2.2 26 1 encs q.2.1) ((0, [], none, 0)) ?_ ⟨rfl, rfl, trivial⟩ rfl (fun q hI => ?_)
            · exact ⟨Nat.zero_le _, rfl, Nat.le_refl _⟩
            obtain ⟨i, acc2, A12, c12⟩ := q
            dsimp only at hI ⊢
            have hI9 := hI.2.1
            refine w_seq ?_
            refine w_seq ?_
            refine w_region ?_
            refine o_y (y_move rfl) rfl rfl ?_
            refine o_y (y_move rfl) rfl rfl ?_
            refine o_y (y_lenl Tryz.underlying59 rfl) rfl rfl ?_
            refine o_y (y_lss rfl rfl) rfl rfl ?_
            refine wl_splitp (t := 73) rfl (fun h22_3 => ?_) (fun h22_3 => ?_)
            · skip
              refine wl_nil ?_
              refine e_seq ?_
              refine w_cond_t rfl ?_
              refine w_skip ?_
              refine e_seq ?_
              refine w_seq ?_
              refine w_block ?_
              refine w_seq ?_
              have hi1 : i < (cands s n).length := by omega
              have hxn := hok.xck (mem_getD (d := ([] : Str)) hi1)
              have hxl := (nameCk_zero.1 hxn).1
              have hda : ((ded [] ((cands s n).take i)).any fun y => same2 y ((cands s n).getD i [])) = decide (foldN ((cands s n).getD i []) ∈ dedS [] ((cands s n).take i)) := any_ded (fun y hy => hok.xck (List.mem_of_mem_take hy)) hxn
              refine w_region ?_
              refine o_y (y_assign rfl) rfl rfl ?_
              refine wl_nil ?_
              refine e_seq ?_
              refine w_seq ?_
              refine w_seq ?_
              refine w_region ?_
              refine o_y (y_assign rfl) rfl rfl ?_
              refine wl_nil ?_
              refine e_seq ?_
              refine w_block ?_
              refine w_loop0 (σ := Nat) [14, 15, 76, 77, 78, 79, 80, 81, 82, 83, 84, 85, 86, 87, 88, 89, 90, 91, 92, 93] (fun j => j ≤ acc2.length) (fun j => acc2.length - j) (fun j => [(15, .int .i64 j), (14, .bool ((acc2.take j).any fun y => same2 y ((cands s n).getD i [])))]) (0) ?_ ⟨rfl, rfl, trivial⟩ (fun j hI => ?_)
              · exact Nat.zero_le _
              refine w_seq ?_
              refine w_seq ?_
              refine w_region ?_
              refine o_y (y_move rfl) rfl rfl ?_
              refine o_y (y_move rfl) rfl rfl ?_
              refine o_y (y_lenl Tryz.underlying59 rfl) rfl rfl ?_
              refine o_y (y_lss rfl rfl) rfl rfl ?_
              refine wl_splitp (t := 79) rfl (fun h26_3 => ?_) (fun h26_3 => ?_)
              · skip
                refine wl_nil ?_
                refine e_seq ?_
                refine w_cond_t rfl ?_
                refine w_skip ?_
                refine e_seq ?_
                refine w_seq ?_
                refine w_block ?_
                have hj1 : j < acc2.length := by omega
                have hm9 : acc2.getD j [] ∈ ded [] ((cands s n).take i) := by
                  rw [← hI9]; exact mem_getD hj1
                have hyl : (acc2.getD j []).length ≤ 254 := (nameCk_zero.1 (hok.xck (List.mem_of_mem_take (ded_mem hm9).1))).1
                refine w_draw 13 rfl mixed ?_
                refine a_take (i := 0) rfl wanted_none (y_move rfl) (fun w h => h) (fun w h => h) rfl (pk_blk (pk_seq (pk_loop (pk_blk (pk_seq (pk_blk (pk_seq (pk_loop (pk_blk (pk_seq pk_fn)))))))))) (by kernel_rfl) rfl ?_
                refine wa_splitb (t := 82) rfl (fun h28_0 => ?_) (fun h28_0 => ?_)
                · skip
                  refine a_take (i := 1) rfl wanted_none (y_move rfl) (fun w h => h) (fun w h => h) rfl (pk_blk (pk_seq (pk_loop (pk_blk (pk_seq (pk_blk (pk_seq (pk_loop (pk_blk (pk_seq pk_fn)))))))))) (by kernel_rfl) rfl ?_
                  refine a_skip (i := 2) rfl (wanted_no rfl rfl rfl) (fun w h => h) rfl (pk_blk (pk_seq (pk_loop (pk_blk (pk_seq (pk_blk (pk_seq (pk_loop (pk_blk (pk_seq pk_fn)))))))))) (by kernel_rfl) rfl ?_
                  refine a_skip (i := 3) rfl (wanted_no rfl rfl rfl) (fun w h => h) rfl (pk_blk (pk_seq (pk_loop (pk_blk (pk_seq (pk_blk (pk_seq (pk_loop (pk_blk (pk_seq pk_fn)))))))))) (by kernel_rfl) rfl ?_
                  refine a_skip (i := 4) rfl (wanted_no rfl rfl rfl) (fun w h => h) rfl (pk_blk (pk_seq (pk_loop (pk_blk (pk_seq (pk_blk (pk_seq (pk_loop (pk_blk (pk_seq pk_fn)))))))))) (by kernel_rfl) rfl ?_
                  refine a_skip (i := 5) rfl (wanted_no rfl rfl rfl) (fun w h => h) rfl (pk_blk (pk_seq (pk_loop (pk_blk (pk_seq (pk_blk (pk_seq (pk_loop (pk_blk (pk_seq pk_fn)))))))))) (by kernel_rfl) rfl ?_
                  refine a_skip (i := 6) rfl (wanted_no rfl rfl rfl) (fun w h => h) rfl (pk_blk (pk_seq (pk_loop (pk_blk (pk_seq (pk_blk (pk_seq (pk_loop (pk_blk (pk_seq pk_fn)))))))))) (by kernel_rfl) rfl ?_
                  refine a_skip (i := 7) rfl (wanted_no rfl rfl rfl) (fun w h => h) rfl (pk_blk (pk_seq (pk_loop (pk_blk (pk_seq (pk_blk (pk_seq (pk_loop (pk_blk (pk_seq pk_fn)))))))))) (by kernel_rfl) rfl ?_
                  refine a_skip (i := 8) rfl (wanted_no rfl rfl rfl) (fun w h => h) rfl (pk_blk (pk_seq (pk_loop (pk_blk (pk_seq (pk_blk (pk_seq (pk_loop (pk_blk (pk_seq pk_fn)))))))))) (by kernel_rfl) rfl ?_
                  refine a_skip (i := 9) rfl (wanted_no rfl rfl rfl) (fun w h => h) rfl (pk_blk (pk_seq (pk_loop (pk_blk (pk_seq (pk_blk (pk_seq (pk_loop (pk_blk (pk_seq pk_fn)))))))))) (by kernel_rfl) rfl ?_
                  refine a_skip (i := 10) rfl (wanted_no rfl rfl rfl) (fun w h => h) rfl (pk_blk (pk_seq (pk_loop (pk_blk (pk_seq (pk_blk (pk_seq (pk_loop (pk_blk (pk_seq pk_fn)))))))))) (by kernel_rfl) rfl ?_
                  refine a_take (i := 11) rfl wanted_none (y_pick_t rfl rfl) (fun w h => h) (fun w h => h) rfl (pk_blk (pk_seq (pk_loop (pk_blk (pk_seq (pk_blk (pk_seq (pk_loop (pk_blk (pk_seq pk_fn)))))))))) (by kernel_rfl) rfl ?_
                  refine a_take (i := 12) rfl wanted_none (y_assign rfl) (fun w h => h) (fun w h => h) rfl (pk_blk (pk_seq (pk_loop (pk_blk (pk_seq (pk_blk (pk_seq (pk_loop (pk_blk (pk_seq pk_fn)))))))))) (by kernel_rfl) rfl ?_
                  refine a_done (by kernel_rfl) ?_
                  refine e_blk ?_
                  refine e_seq ?_
                  refine w_region ?_
                  refine o_y (y_move rfl) rfl rfl ?_
                  refine o_y (y_addi rfl rfl (by omega) (by omega)) rfl rfl ?_
                  refine o_y (y_assign rfl) rfl rfl ?_
                  refine wl_nil ?_
                  refine e_back (j + 1) ?_ ?_ ⟨rfl, lk rfl (congrArg Value.bool (by rw [any_succ' hj1]; first | (rw [h28_0]; rfl) | (rw [h28_0, h28_10]; rfl))), trivial⟩ (by repeat (first | exact trivial | refine ⟨rfl, ?_⟩)) (fun w h => h)
                  · omega
                  · omega
                · skip
                  refine a_take (i := 1) rfl wanted_none (y_move rfl) (fun w h => h) (fun w h => h) rfl (pk_blk (pk_seq (pk_loop (pk_blk (pk_seq (pk_blk (pk_seq (pk_loop (pk_blk (pk_seq pk_fn)))))))))) (by kernel_rfl) rfl ?_
                  refine a_take (i := 2) rfl (wanted_yes rfl rfl) (y_move rfl) (fun w h => h) (fun w h => h) rfl (pk_blk (pk_seq (pk_loop (pk_blk (pk_seq (pk_blk (pk_seq (pk_loop (pk_blk (pk_seq pk_fn)))))))))) (by kernel_rfl) rfl ?_
                  refine a_take (i := 3) rfl (wanted_yes rfl rfl) (y_move rfl) (fun w h => h) (fun w h => h) rfl (pk_blk (pk_seq (pk_loop (pk_blk (pk_seq (pk_blk (pk_seq (pk_loop (pk_blk (pk_seq pk_fn)))))))))) (by kernel_rfl) rfl ?_
                  refine a_take (i := 4) rfl (wanted_yes rfl rfl) (y_ixm  Tryz.underlying59 ty_26 rfl rfl (rs_L 0 rfl) rfl (by omega)) (fun w h => h) (fun w h => h) rfl (pk_blk (pk_seq (pk_loop (pk_blk (pk_seq (pk_blk (pk_seq (pk_loop (pk_blk (pk_seq pk_fn)))))))))) (by kernel_rfl) rfl ?_
                  refine a_take (i := 5) rfl (wanted_yes rfl rfl) (y_ldm0 enc_s ([] : Str) ty_26 rfl (rs_L 0 rfl) (by omega) rfl rfl) (fun w h => h) (fun w h => h) rfl (pk_blk (pk_seq (pk_loop (pk_blk (pk_seq (pk_blk (pk_seq (pk_loop (pk_blk (pk_seq pk_fn)))))))))) (by kernel_rfl) rfl ?_
                  refine a_take (i := 6) rfl (wanted_yes rfl rfl) (y_move rfl) (fun w h => h) (fun w h => h) rfl (pk_blk (pk_seq (pk_loop (pk_blk (pk_seq (pk_blk (pk_seq (pk_loop (pk_blk (pk_seq pk_fn)))))))))) (by kernel_rfl) rfl ?_
                  refine a_take (i := 7) rfl (wanted_yes rfl rfl) (y_move rfl) (fun w h => h) (fun w h => h) rfl (pk_blk (pk_seq (pk_loop (pk_blk (pk_seq (pk_blk (pk_seq (pk_loop (pk_blk (pk_seq pk_fn)))))))))) (by kernel_rfl) rfl ?_
                  refine a_take (i := 8) rfl (wanted_yes rfl rfl) (y_ixm  Tryz.underlying59 ty_26 rfl rfl (rs_L 1 rfl) rfl (by omega)) (fun w h => h) (fun w h => h) rfl (pk_blk (pk_seq (pk_loop (pk_blk (pk_seq (pk_blk (pk_seq (pk_loop (pk_blk (pk_seq pk_fn)))))))))) (by kernel_rfl) rfl ?_
                  refine a_take (i := 9) rfl (wanted_yes rfl rfl) (y_ldm0 enc_s ([] : Str) ty_26 rfl (rs_L 1 rfl) (by omega) rfl rfl) (fun w h => h) (fun w h => h) rfl (pk_blk (pk_seq (pk_loop (pk_blk (pk_seq (pk_blk (pk_seq (pk_loop (pk_blk (pk_seq pk_fn)))))))))) (by kernel_rfl) rfl ?_
                  refine a_one (i := 10) rfl rfl rfl (tame_call rfl ent_64) (by kernel_rfl) rfl ?_
                  refine wl_gyes rfl rfl ?_
                  refine o_callp rfl ent_64 (c_ref02_Same _ _ (by omega) (by omega)) rfl ?_
                  refine wl_nil ?_
                  refine e_one (fun w h => h) ?_
                  refine wa_splitb (t := 92) rfl (fun h28_10 => ?_) (fun h28_10 => ?_)
                  · skip
                    refine a_take (i := 11) rfl wanted_none (y_pick_f rfl rfl) (fun w h => h) (fun w h => h) rfl (pk_blk (pk_seq (pk_loop (pk_blk (pk_seq (pk_blk (pk_seq (pk_loop (pk_blk (pk_seq pk_fn)))))))))) (by kernel_rfl) rfl ?_
                    refine a_take (i := 12) rfl wanted_none (y_assign rfl) (fun w h => h) (fun w h => h) rfl (pk_blk (pk_seq (pk_loop (pk_blk (pk_seq (pk_blk (pk_seq (pk_loop (pk_blk (pk_seq pk_fn)))))))))) (by kernel_rfl) rfl ?_
                    refine a_done (by kernel_rfl) ?_
                    refine e_blk ?_
                    refine e_seq ?_
                    refine w_region ?_
                    refine o_y (y_move rfl) rfl rfl ?_
                    refine o_y (y_addi rfl rfl (by omega) (by omega)) rfl rfl ?_
                    refine o_y (y_assign rfl) rfl rfl ?_
                    refine wl_nil ?_
                    refine e_back (j + 1) ?_ ?_ ⟨rfl, lk rfl (congrArg Value.bool (by rw [any_succ' hj1]; first | (rw [h28_0]; rfl) | (rw [h28_0, h28_10]; rfl))), trivial⟩ (by repeat (first | exact trivial | refine ⟨rfl, ?_⟩)) (fun w h => h)
                    · omega
                    · omega
                  · skip
                    refine a_take (i := 11) rfl wanted_none (y_pick_f rfl rfl) (fun w h => h) (fun w h => h) rfl (pk_blk (pk_seq (pk_loop (pk_blk (pk_seq (pk_blk (pk_seq (pk_loop (pk_blk (pk_seq pk_fn)))))))))) (by kernel_rfl) rfl ?_
                    refine a_take (i := 12) rfl wanted_none (y_assign rfl) (fun w h => h) (fun w h => h) rfl (pk_blk (pk_seq (pk_loop (pk_blk (pk_seq (pk_blk (pk_seq (pk_loop (pk_blk (pk_seq pk_fn)))))))))) (by kernel_rfl) rfl ?_
                    refine a_done (by kernel_rfl) ?_
                    refine e_blk ?_
                    refine e_seq ?_
                    refine w_region ?_
                    refine o_y (y_move rfl) rfl rfl ?_
                    refine o_y (y_addi rfl rfl (by omega) (by omega)) rfl rfl ?_
                    refine o_y (y_assign rfl) rfl rfl ?_
                    refine wl_nil ?_
                    refine e_back (j + 1) ?_ ?_ ⟨rfl, lk rfl (congrArg Value.bool (by rw [any_succ' hj1]; first | (rw [h28_0]; rfl) | (rw [h28_0, h28_10]; rfl))), trivial⟩ (by repeat (first | exact trivial | refine ⟨rfl, ?_⟩)) (fun w h => h)
                    · omega
                    · omega
              · skip
                refine wl_nil ?_
                refine e_seq ?_
                refine w_cond_f rfl ?_
                refine w_exit ?_
                refine e_seq_exit ?_
                refine e_loop_exit ?_
                refine e_blk_hit ?_
                refine e_seq ?_
                refine w_seq ?_
                have hj9 : j = acc2.length := by omega
                subst hj9
                rw [List.take_length]
                refine w_region ?_
                refine o_y (y_move rfl) rfl rfl ?_
                have hda2 : (acc2.any fun y => same2 y ((cands s n).getD i [])) = decide (foldN ((cands s n).getD i []) ∈ dedS [] ((cands s n).take i)) := by rw [hI9]; exact hda
                refine wl_splitb (t := 94) rfl (fun h29_0 => ?_) (fun h29_0 => ?_)
                · skip
                  refine o_y (y_not rfl) rfl rfl ?_
                  refine wl_nil ?_
                  refine e_seq ?_
                  refine w_cond_f rfl ?_
                  refine w_skip ?_
                  refine e_blk ?_
                  refine e_seq ?_
                  refine w_region ?_
                  refine o_y (y_move rfl) rfl rfl ?_
                  refine o_y (y_addi rfl rfl (by omega) (by omega)) rfl rfl ?_
                  refine o_y (y_assign rfl) rfl rfl ?_
                  refine wl_nil ?_
                  refine e_back ((i + 1, acc2, A12, c12)) ?_ ?_ ⟨rfl, rfl, trivial⟩ (by repeat (first | exact trivial | refine ⟨rfl, ?_⟩)) (fun w h => h)
                  · have hys : foldN ((cands s n).getD i []) ∈ dedS [] ((cands s n).take i) := of_decide_eq_true (hda2 ▸ h29_0)
                    exact ⟨by show i + 1 ≤ _; omega, by show _ = ded [] ((cands s n).take (i + 1)); rw [take_getD _ [] i hi1, (dedS_no hys).2]; exact hI9, by show acc2.length ≤ i + 1; omega⟩
                  · show (cands s n).length - (i + 1) < (cands s n).length - i
                    omega
                · skip
                  refine o_y (y_not rfl) rfl rfl ?_
                  refine wl_nil ?_
                  refine e_seq ?_
                  refine w_cond_t rfl ?_
                  refine w_region ?_
                  refine o_y (y_move rfl) rfl rfl ?_
                  refine o_y (y_move rfl) rfl rfl ?_
                  refine o_y (y_move rfl) rfl rfl ?_
                  refine o_y (y_ixm  Tryz.underlying59 ty_26 rfl rfl (rs_L 1 rfl) rfl (by omega)) rfl rfl ?_
                  refine o_y (y_ldm0 enc_s ([] : Str) ty_26 rfl (rs_L 1 rfl) (by omega) rfl rfl) rfl rfl ?_
                  refine o_bsl (vs := [_]) ([(cands s n).getD i []] : List (Str)) enc_s Tryz.underlying59 ty_26 rfl rfl rfl rfl rfl rfl (fun As9 => ?_)
                  refine o_appm (enc := encs) (sz := 1) _ Tryz.underlying59 ty_26 rfl rfl rfl (fun A c => (.s (.z))) (src_L 0 Tryz.underlying59 rfl) (by simp only [List.length_cons, List.length_nil, Nat.zero_add]; omega) (by simp only [List.length_cons, List.length_nil, Nat.zero_add]; omega) rfl (fun A9 c9 => ?_)
                  refine o_y (y_assign rfl) rfl rfl ?_
                  refine wl_nil ?_
                  refine e_blk ?_
                  refine e_seq ?_
                  refine w_region ?_
                  refine o_y (y_move rfl) rfl rfl ?_
                  refine o_y (y_addi rfl rfl (by omega) (by omega)) rfl rfl ?_
                  refine o_y (y_assign rfl) rfl rfl ?_
                  refine wl_nil ?_
                  refine e_back ((i + 1, acc2 ++ [(cands s n).getD i []], A9, c9)) ?_ ?_ ⟨rfl, rfl, trivial⟩ (by repeat (first | exact trivial | refine ⟨rfl, ?_⟩)) (fun w h => h.weak (.cons _ (List.Sublist.refl _)) (fun s hs => hs))
                  · have hns : ¬ foldN ((cands s n).getD i []) ∈ dedS [] ((cands s n).take i) := of_decide_eq_false (hda2 ▸ h29_0)
                    exact ⟨by show i + 1 ≤ _; omega, by show _ = ded [] ((cands s n).take (i + 1)); rw [take_getD _ [] i hi1, (dedS_yes hns).2, ← hI9], by show (acc2 ++ [_]).length ≤ i + 1; simp; omega⟩
                  · show (cands s n).length - (i + 1) < (cands s n).length - i
                    omega
            · skip
              refine wl_nil ?_
              refine e_seq ?_
              refine w_cond_f rfl ?_
              refine w_exit ?_
              refine e_seq_exit ?_
              refine e_loop_exit ?_
              refine e_blk_hit ?_
              refine e_seq ?_
              refine w_seq ?_
              refine w_region ?_
              refine o_y (y_move rfl) rfl rfl ?_
              refine o_y (y_assign rfl) rfl rfl ?_
              refine o_y (y_assign rfl) rfl rfl ?_
              refine wl_nil ?_
              refine e_seq ?_
              refine w_ret ?_
              refine e_ret (ts := [4, 5]) rfl rfl rfl (fun w hw => ?_)
              have hi9 : i = (cands s n).length := by omega
              subst hi9
              have hE : eachS s n = acc2 := by rw [hok.each, hI.2.1, List.take_length]
              exact ⟨(A12, c12), by rw [hok.names, hE]; rfl, hw.base, by rw [hE]; exact (hw.weak (.cons_cons _ (.cons _ (.cons _ (.cons _ (.cons _ .slnil))))) (fun s hs => hs)).toNews⟩
        · skip
          refine a_take (i := 7) rfl wanted_none (y_assign rfl) (fun w h => h.weak (.cons _ (List.Sublist.refl _)) (fun s hs => hs)) (fun w h => h) rfl (pk_seq pk_fn) (by kernel_rfl) rfl ?_
          refine a_done (by kernel_rfl) ?_
          refine e_seq ?_
          refine w_seq ?_
          refine w_seq ?_
          have hown : ¬ ownS s n := fun h => h.elim h6_1 (fun q => by omega)
          refine w_region ?_
          refine o_y (y_move rfl) rfl rfl ?_
          refine wl_nil ?_
          refine e_seq ?_
          refine w_cond_f rfl ?_
          refine w_skip ?_
          refine e_seq ?_
          refine w_seq ?_
          refine w_seq ?_
          refine w_region ?_
          refine o_y (y_assign rfl) rfl rfl ?_
          refine wl_nil ?_
          refine e_seq ?_
          refine w_block ?_
          refine w_heap (fun w h => h.nilsl 26 1) ?_
          refine w_loop1 (σ := Nat × List Str × Option Addr × Nat) [7, 9, 10, 11, 41, 42, 43, 44, 45, 46, 47, 48, 49, 50, 51, 52, 53, 54, 55, 56, 57, 58, 59, 60, 61, 62, 63] (fun q => q.1 ≤ s.doms.length ∧ q.2.1 = (if ownS s n then [n] else []) ++ joins n (s.doms.take q.1) ∧ q.2.1.length ≤ q.1 + 1) (fun q => s.doms.length - q.1) (fun q => [(9, .int .i64 q.1), (7, .slice q.2.2.1 q.2.1.length q.2.2.2)]) (fun q => Ch.ls q.2.2.1 q.2.2.2 26 1 encs q.2.1) ((0, [], none, 0)) ?_ ⟨rfl, rfl, trivial⟩ rfl (fun q hI => ?_)
          · first
              | exact ⟨Nat.zero_le _, by rw [if_pos hown]; rfl, by simp⟩
              | exact ⟨Nat.zero_le _, by rw [if_neg hown]; rfl, by simp⟩
          obtain ⟨k, acc, A7, c7⟩ := q
          dsimp only at hI ⊢
          refine w_seq ?_
          refine w_seq ?_
          refine w_region ?_
          refine o_y (y_move rfl) rfl rfl ?_
          refine o_y (y_field fa_82_1 rfl) rfl rfl ?_
          refine o_y (y_loadr 2 ty_59 rfl rfl rfl) rfl rfl ?_
          refine o_y (y_lenl Tryz.underlying59 rfl) rfl rfl ?_
          refine o_y (y_lss rfl rfl) rfl rfl ?_
          refine wl_splitp (t := 45) rfl (fun h13_4 => ?_) (fun h13_4 => ?_)
          · skip
            refine wl_nil ?_
            refine e_seq ?_
            refine w_cond_t rfl ?_
            refine w_skip ?_
            refine e_seq ?_
            refine w_seq ?_
            refine w_block ?_
            refine w_seq ?_
            have hk1 : k < s.doms.length := by omega
            have hjl := hb3 _ (mem_getD (d := ([] : Str)) hk1)
            refine w_region ?_
            refine o_y (y_move rfl) rfl rfl ?_
            refine o_y (y_field fa_82_1 rfl) rfl rfl ?_
            refine o_y (y_loadr 2 ty_59 rfl rfl rfl) rfl rfl ?_
            refine o_y (y_move rfl) rfl rfl ?_
            refine o_y (y_ixm  Tryz.underlying59 ty_26 rfl rfl (rs_S 0 rfl) rfl (by omega)) rfl rfl ?_
            refine o_y (y_ldm0 enc_s ([] : Str) ty_26 rfl (rs_S 0 rfl) (by omega) rfl rfl) rfl rfl ?_
            refine o_callp rfl ent_87 (c_ref02_Join _ _ (by omega) (by omega)) rfl ?_
            refine o_y (y_move rfl) rfl rfl ?_
            refine o_y (y_extract rfl rfl) rfl rfl ?_
            refine o_y (y_extract rfl rfl) rfl rfl ?_
            refine o_y (y_assign rfl) rfl rfl ?_
            refine o_y (y_assign rfl) rfl rfl ?_
            refine wl_nil ?_
            refine e_seq ?_
            refine w_seq ?_
            refine w_region ?_
            refine o_y (y_move rfl) rfl rfl ?_
            refine o_y (y_eql rfl rfl) rfl rfl ?_
            refine wl_splitp (t := 59) rfl (fun h16_1 => ?_) (fun h16_1 => ?_)
            · skip
              refine wl_nil ?_
              refine e_seq ?_
              refine w_cond_t rfl ?_
              refine w_region ?_
              refine o_y (y_move rfl) rfl rfl ?_
              refine o_y (y_move rfl) rfl rfl ?_
              refine o_bsl (vs := [_]) ([joinN n (s.doms.getD k [])] : List (Str)) enc_s Tryz.underlying59 ty_26 rfl rfl rfl rfl rfl rfl (fun As11 => ?_)
              refine o_appm (enc := encs) (sz := 1) _ Tryz.underlying59 ty_26 rfl rfl rfl (fun A c => (.s (.z))) (src_L 0 Tryz.underlying59 rfl) (by simp only [List.length_cons, List.length_nil, Nat.zero_add]; omega) (by simp only [List.length_cons, List.length_nil, Nat.zero_add]; omega) rfl (fun A11 c11 => ?_)
              refine o_y (y_assign rfl) rfl rfl ?_
              refine wl_nil ?_
              refine e_blk ?_
              refine e_seq ?_
              refine w_region ?_
              refine o_y (y_move rfl) rfl rfl ?_
              refine o_y (y_addi rfl rfl (by omega) (by omega)) rfl rfl ?_
              refine o_y (y_assign rfl) rfl rfl ?_
              refine wl_nil ?_
              refine e_back ((k + 1, acc ++ [joinN n (s.doms.getD k [])], A11, c11)) ?_ ?_ ⟨rfl, rfl, trivial⟩ (by repeat (first | exact trivial | refine ⟨rfl, ?_⟩)) (fun w h => h.weak (.cons _ (List.Sublist.refl _)) (fun s hs => hs))
              · exact ⟨by show k + 1 ≤ _; omega, by show _ = _ ++ joins n (s.doms.take (k + 1)); rw [joins_succ hk1, if_pos h16_1, join_good h16_1, ← List.append_assoc, ← hI.2.1], by show (acc ++ [_]).length ≤ k + 1 + 1; simp; omega⟩
              · show s.doms.length - (k + 1) < s.doms.length - k
                omega
            · skip
              refine wl_nil ?_
              refine e_seq ?_
              refine w_cond_f rfl ?_
              refine w_skip ?_
              refine e_blk ?_
              refine e_seq ?_
              refine w_region ?_
              refine o_y (y_move rfl) rfl rfl ?_
              refine o_y (y_addi rfl rfl (by omega) (by omega)) rfl rfl ?_
              refine o_y (y_assign rfl) rfl rfl ?_
              refine wl_nil ?_
              refine e_back ((k + 1, acc, A7, c7)) ?_ ?_ ⟨rfl, rfl, trivial⟩ (by repeat (first | exact trivial | refine ⟨rfl, ?_⟩)) (fun w h => h)
              · exact ⟨by show k + 1 ≤ _; omega, by show _ = _ ++ joins n (s.doms.take (k + 1)); rw [joins_succ hk1, if_neg h16_1, List.append_nil]; exact hI.2.1, by show acc.length ≤ k + 1 + 1; omega⟩
              · show s.doms.length - (k + 1) < s.doms.length - k
                omega
          · skip
            refine wl_nil ?_
            refine e_seq ?_
            refine w_cond_f rfl ?_
            refine w_exit ?_
            refine e_seq_exit ?_
            refine e_loop_exit ?_
            refine e_blk_hit ?_
            refine e_seq ?_
            refine w_seq ?_
            refine w_seq ?_
            refine w_region ?_
            refine o_y (y_move rfl) rfl rfl ?_
            refine o_y (y_not rfl) rfl rfl ?_
            refine wl_nil ?_
            refine e_seq ?_
            refine w_cond_t rfl ?_
            refine w_region ?_
            refine o_y (y_move rfl) rfl rfl ?_
            refine o_y (y_move rfl) rfl rfl ?_
            refine o_bsl (vs := [_]) ([n] : List (Str)) enc_s Tryz.underlying59 ty_26 rfl rfl rfl rfl rfl rfl (fun As13 => ?_)
            refine o_appm (enc := encs) (sz := 1) _ Tryz.underlying59 ty_26 rfl rfl rfl (fun A c => (.s (.z))) (src_L 0 Tryz.underlying59 rfl) (by simp only [List.length_cons, List.length_nil, Nat.zero_add]; omega) (by simp only [List.length_cons, List.length_nil, Nat.zero_add]; omega) rfl (fun A13 c13 => ?_)
            refine o_y (y_assign rfl) rfl rfl ?_
            refine wl_nil ?_
            refine e_seq ?_
            refine w_seq ?_
            have hk9 : k = s.doms.length := by omega
            subst hk9
            have hcs : acc ++ [n] = cands s n := by rw [hI.2.1, List.take_length, if_neg hown, cands, if_neg h6_1, if_neg hown]; rfl
            rw [hcs]
            refine w_region ?_
            refine o_y (y_assign rfl) rfl rfl ?_
            refine wl_nil ?_
            refine e_seq ?_
            refine w_seq ?_
            refine w_seq ?_
            refine w_region ?_
            refine o_y (y_assign rfl) rfl rfl ?_
            refine wl_nil ?_
            refine e_seq ?_
            refine w_block ?_
            have hcl := cands_len s n
            refine w_heap (fun w h => h.nilsl 26 1) ?_
            refine w_loop1 (σ := Nat × List Str × Option Addr × Nat) [12, 13, 14, 15, 70, 71, 72, 73, 74, 75, 76, 77, 78, 79, 80, 81, 82, 83, 84, 85, 86, 87, 88, 89, 90, 91, 92, 93, 94, 95, 96, 97, 98, 99, 100, 101, 102] (fun q => q.1 ≤ (cands s n).length ∧ q.2.1 = ded [] ((cands s n).take q.1) ∧ q.2.1.length ≤ q.1) (fun q => (cands s n).length - q.1) (fun q => [(13, .int .i64 q.1), (12, .slice q.2.2.1 q.2.1.length q.2.2.2)]) (fun q => Ch.ls q.2.2.1 q.2.2.2 26 1 encs q.2.1) ((0, [], none, 0)) ?_ ⟨rfl, rfl, trivial⟩ rfl (fun q hI => ?_)
            · exact ⟨Nat.zero_le _, rfl, Nat.le_refl _⟩
            obtain ⟨i, acc2, A12, c12⟩ := q
            dsimp only at hI ⊢
            have hI9 := hI.2.1
            refine w_seq ?_
            refine w_seq ?_
            refine w_region ?_
            refine o_y (y_move rfl) rfl rfl ?_
            refine o_y (y_move rfl) rfl rfl ?_
            refine o_y (y_lenl Tryz.underlying59 rfl) rfl rfl ?_
            refine o_y (y_lss rfl rfl) rfl rfl ?_
            refine wl_splitp (t := 73) rfl (fun h22_3 => ?_) (fun h22_3 => ?_)
            · skip
              refine wl_nil ?_
              refine e_seq ?_
              refine w_cond_t rfl ?_
              refine w_skip ?_
              refine e_seq ?_
              refine w_seq ?_
              refine w_block ?_
              refine w_seq ?_
              have hi1 : i < (cands s n).length := by omega
              have hxn := hok.xck (mem_getD (d := ([] : Str)) hi1)
              have hxl := (nameCk_zero.1 hxn).1
              have hda : ((ded [] ((cands s n).take i)).any fun y => same2 y ((cands s n).getD i [])) = decide (foldN ((cands s n).getD i []) ∈ dedS [] ((cands s n).take i)) := any_ded (fun y hy => hok.xck (List.mem_of_mem_take hy)) hxn
              refine w_region ?_
              refine o_y (y_assign rfl) rfl rfl ?_
              refine wl_nil ?_
              refine e_seq ?_
              refine w_seq ?_
              refine w_seq ?_
              refine w_region ?_
              refine o_y (y_assign rfl) rfl rfl ?_
              refine wl_nil ?_
              refine e_seq ?_
              refine w_block ?_
              refine w_loop0 (σ := Nat) [14, 15, 76, 77, 78, 79, 80, 81, 82, 83, 84, 85, 86, 87, 88, 89, 90, 91, 92, 93] (fun j => j ≤ acc2.length) (fun j => acc2.length - j) (fun j => [(15, .int .i64 j), (14, .bool ((acc2.take j).any fun y => same2 y ((cands s n).getD i [])))]) (0) ?_ ⟨rfl, rfl, trivial⟩ (fun j hI => ?_)
              · exact Nat.zero_le _
              refine w_seq ?_
              refine w_seq ?_
              refine w_region ?_
              refine o_y (y_move rfl) rfl rfl ?_
              refine o_y (y_move rfl) rfl rfl ?_
              refine o_y (y_lenl Tryz.underlying59 rfl) rfl rfl ?_
              refine o_y (y_lss rfl rfl) rfl rfl ?_
              refine wl_splitp (t := 79) rfl (fun h26_3 => ?_) (fun h26_3 => ?_)
              · skip
                refine wl_nil ?_
                refine e_seq ?_
                refine w_cond_t rfl ?_
                refine w_skip ?_
                refine e_seq ?_
                refine w_seq ?_
                refine w_block ?_
                have hj1 : j < acc2.length := by omega
                have hm9 : acc2.getD j [] ∈ ded [] ((cands s n).take i) := by
                  rw [← hI9]; exact mem_getD hj1
                have hyl : (acc2.getD j []).length ≤ 254 := (nameCk_zero.1 (hok.xck (List.mem_of_mem_take (ded_mem hm9).1))).1
                refine w_draw 13 rfl mixed ?_
                refine a_take (i := 0) rfl wanted_none (y_move rfl) (fun w h => h) (fun w h => h) rfl (pk_blk (pk_seq (pk_loop (pk_blk (pk_seq (pk_blk (pk_seq (pk_loop (pk_blk (pk_seq pk_fn)))))))))) (by kernel_rfl) rfl ?_
                refine wa_splitb (t := 82) rfl (fun h28_0 => ?_) (fun h28_0 => ?_)
                · skip
                  refine a_take (i := 1) rfl wanted_none (y_move rfl) (fun w h => h) (fun w h => h) rfl (pk_blk (pk_seq (pk_loop (pk_blk (pk_seq (pk_blk (pk_seq (pk_loop (pk_blk (pk_seq pk_fn)))))))))) (by kernel_rfl) rfl ?_
                  refine a_skip (i := 2) rfl (wanted_no rfl rfl rfl) (fun w h => h) rfl (pk_blk (pk_seq (pk_loop (pk_blk (pk_seq (pk_blk (pk_seq (pk_loop (pk_blk (pk_seq pk_fn)))))))))) (by kernel_rfl) rfl ?_
                  refine a_skip (i := 3) rfl (wanted_no rfl rfl rfl) (fun w h => h) rfl (pk_blk (pk_seq (pk_loop (pk_blk (pk_seq (pk_blk (pk_seq (pk_loop (pk_blk (pk_seq pk_fn)))))))))) (by kernel_rfl) rfl ?_
                  refine a_skip (i := 4) rfl (wanted_no rfl rfl rfl) (fun w h => h) rfl (pk_blk (pk_seq (pk_loop (pk_blk (pk_seq (pk_blk (pk_seq (pk_loop (pk_blk (pk_seq pk_fn)))))))))) (by kernel_rfl) rfl ?_
                  refine a_skip (i := 5) rfl (wanted_no rfl rfl rfl) (fun w h => h) rfl (pk_blk (pk_seq (pk_loop (pk_blk (pk_seq (pk_blk (pk_seq (pk_loop (pk_blk (pk_seq pk_fn)))))))))) (by kernel_rfl) rfl ?_
                  refine a_skip (i := 6) rfl (wanted_no rfl rfl rfl) (fun w h => h) rfl (pk_blk (pk_seq (pk_loop (pk_blk (pk_seq (pk_blk (pk_seq (pk_loop (pk_blk (pk_seq pk_fn)))))))))) (by kernel_rfl) rfl ?_
                  refine a_skip (i := 7) rfl (wanted_no rfl rfl rfl) (fun w h => h) rfl (pk_blk (pk_seq (pk_loop (pk_blk (pk_seq (pk_blk (pk_seq (pk_loop (pk_blk (pk_seq pk_fn)))))))))) (by kernel_rfl) rfl ?_
                  refine a_skip (i := 8) rfl (wanted_no rfl rfl rfl) (fun w h => h) rfl (pk_blk (pk_seq (pk_loop (pk_blk (pk_seq (pk_blk (pk_seq (pk_loop (pk_blk (pk_seq pk_fn)))))))))) (by kernel_rfl) rfl ?_
                  refine a_skip (i := 9) rfl (wanted_no rfl rfl rfl) (fun w h => h) rfl (pk_blk (pk_seq (pk_loop (pk_blk (pk_seq (pk_blk (pk_seq (pk_loop (pk_blk (pk_seq pk_fn)))))))))) (by kernel_rfl) rfl ?_
                  refine a_skip (i := 10) rfl (wanted_no rfl rfl rfl) (fun w h => h) rfl (pk_blk (pk_seq (pk_loop (pk_blk (pk_seq (pk_blk (pk_seq (pk_loop (pk_blk (pk_seq pk_fn)))))))))) (by kernel_rfl) rfl ?_
                  refine a_take (i := 11) rfl wanted_none (y_pick_t rfl rfl) (fun w h => h) (fun w h => h) rfl (pk_blk (pk_seq (pk_loop (pk_blk (pk_seq (pk_blk (pk_seq (pk_loop (pk_blk (pk_seq pk_fn)))))))))) (by kernel_rfl) rfl ?_
                  refine a_take (i := 12) rfl wanted_none (y_assign rfl) (fun w h => h) (fun w h => h) rfl (pk_blk (pk_seq (pk_loop (pk_blk (pk_seq (pk_blk (pk_seq (pk_loop (pk_blk (pk_seq pk_fn)))))))))) (by kernel_rfl) rfl ?_
                  refine a_done (by kernel_rfl) ?_
                  refine e_blk ?_
                  refine e_seq ?_
                  refine w_region ?_
                  refine o_y (y_move rfl) rfl rfl ?_
                  refine o_y (y_addi rfl rfl (by omega) (by omega)) rfl rfl ?_
                  refine o_y (y_assign rfl) rfl rfl ?_
                  refine wl_nil ?_
                  refine e_back (j + 1) ?_ ?_ ⟨rfl, lk rfl (congrArg Value.bool (by rw [any_succ' hj1]; first | (rw [h28_0]; rfl) | (rw [h28_0, h28_10]; rfl))), trivial⟩ (by repeat (first | exact trivial | refine ⟨rfl, ?_⟩)) (fun w h => h)
                  · omega
                  · omega
                · skip
                  refine a_take (i := 1) rfl wanted_none (y_move rfl) (fun w h => h) (fun w h => h) rfl (pk_blk (pk_seq (pk_loop (pk_blk (pk_seq (pk_blk (pk_seq (pk_loop (pk_blk (pk_seq pk_fn)))))))))) (by kernel_rfl) rfl ?_
                  refine a_take (i := 2) rfl (wanted_yes rfl rfl) (y_move rfl) (fun w h => h) (fun w h => h) rfl (pk_blk (pk_seq (pk_loop (pk_blk (pk_seq (pk_blk (pk_seq (pk_loop (pk_blk (pk_seq pk_fn)))))))))) (by kernel_rfl) rfl ?_
                  refine a_take (i := 3) rfl (wanted_yes rfl rfl) (y_move rfl) (fun w h => h) (fun w h => h) rfl (pk_blk (pk_seq (pk_loop (pk_blk (pk_seq (pk_blk (pk_seq (pk_loop (pk_blk (pk_seq pk_fn)))))))))) (by kernel_rfl) rfl ?_
                  refine a_take (i := 4) rfl (wanted_yes rfl rfl) (y_ixm  Tryz.underlying59 ty_26 rfl rfl (rs_L 0 rfl) rfl (by omega)) (fun w h => h) (fun w h => h) rfl (pk_blk (pk_seq (pk_loop (pk_blk (pk_seq (pk_blk (pk_seq (pk_loop (pk_blk (pk_seq pk_fn)))))))))) (by kernel_rfl) rfl ?_
                  refine a_take (i := 5) rfl (wanted_yes rfl rfl) (y_ldm0 enc_s ([] : Str) ty_26 rfl (rs_L 0 rfl) (by omega) rfl rfl) (fun w h => h) (fun w h => h) rfl (pk_blk (pk_seq (pk_loop (pk_blk (pk_seq (pk_blk (pk_seq (pk_loop (pk_blk (pk_seq pk_fn)))))))))) (by kernel_rfl) rfl ?_
                  refine a_take (i := 6) rfl (wanted_yes rfl rfl) (y_move rfl) (fun w h => h) (fun w h => h) rfl (pk_blk (pk_seq (pk_loop (pk_blk (pk_seq (pk_blk (pk_seq (pk_loop (pk_blk (pk_seq pk_fn)))))))))) (by kernel_rfl) rfl ?_
                  refine a_take (i := 7) rfl (wanted_yes rfl rfl) (y_move rfl) (fun w h => h) (fun w h => h) rfl (pk_blk (pk_seq (pk_loop (pk_blk (pk_seq (pk_blk (pk_seq (pk_loop (pk_blk (pk_seq pk_fn)))))))))) (by kernel_rfl) rfl ?_
                  refine a_take (i := 8) rfl (wanted_yes rfl rfl) (y_ixm  Tryz.underlying59 ty_26 rfl rfl (rs_L 2 rfl) rfl (by omega)) (fun w h => h) (fun w h => h) rfl (pk_blk (pk_seq (pk_loop (pk_blk (pk_seq (pk_blk (pk_seq (pk_loop (pk_blk (pk_seq pk_fn)))))))))) (by kernel_rfl) rfl ?_
                  refine a_take (i := 9) rfl (wanted_yes rfl rfl) (y_ldm0 enc_s ([] : Str) ty_26 rfl (rs_L 2 rfl) (by omega) rfl rfl) (fun w h => h) (fun w h => h) rfl (pk_blk (pk_seq (pk_loop (pk_blk (pk_seq (pk_blk (pk_seq (pk_loop (pk_blk (pk_seq pk_fn)))))))))) (by kernel_rfl) rfl ?_
                  refine a_one (i := 10) rfl rfl rfl (tame_call rfl ent_64) (by kernel_rfl) rfl ?_
                  refine wl_gyes rfl rfl ?_
                  refine o_callp rfl ent_64 (c_ref02_Same _ _ (by omega) (by omega)) rfl ?_
                  refine wl_nil ?_
                  refine e_one (fun w h => h) ?_
                  refine wa_splitb (t := 92) rfl (fun h28_10 => ?_) (fun h28_10 => ?_)
                  · skip
                    refine a_take (i := 11) rfl wanted_none (y_pick_f rfl rfl) (fun w h => h) (fun w h => h) rfl (pk_blk (pk_seq (pk_loop (pk_blk (pk_seq (pk_blk (pk_seq (pk_loop (pk_blk (pk_seq pk_fn)))))))))) (by kernel_rfl) rfl ?_
                    refine a_take (i := 12) rfl wanted_none (y_assign rfl) (fun w h => h) (fun w h => h) rfl (pk_blk (pk_seq (pk_loop (pk_blk (pk_seq (pk_blk (pk_seq (pk_loop (pk_blk (pk_seq pk_fn)))))))))) (by kernel_rfl) rfl ?_
                    refine a_done (by kernel_rfl) ?_
                    refine e_blk ?_
                    refine e_seq ?_
                    refine w_region ?_
                    refine o_y (y_move rfl) rfl rfl ?_
                    refine o_y (y_addi rfl rfl (by omega) (by omega)) rfl rfl ?_
                    refine o_y (y_assign rfl) rfl rfl ?_
                    refine wl_nil ?_
                    refine e_back (j + 1) ?_ ?_ ⟨rfl, lk rfl (congrArg Value.bool (by rw [any_succ' hj1]; first | (rw [h28_0]; rfl) | (rw [h28_0, h28_10]; rfl))), trivial⟩ (by repeat (first | exact trivial | refine ⟨rfl, ?_⟩)) (fun w h => h)
                    · omega
                    · omega
                  · skip
                    refine a_take (i := 11) rfl wanted_none (y_pick_f rfl rfl) (fun w h => h) (fun w h => h) rfl (pk_blk (pk_seq (pk_loop (pk_blk (pk_seq (pk_blk (pk_seq (pk_loop (pk_blk (pk_seq pk_fn)))))))))) (by kernel_rfl) rfl ?_
                    refine a_take (i := 12) rfl wanted_none (y_assign rfl) (fun w h => h) (fun w h => h) rfl (pk_blk (pk_seq (pk_loop (pk_blk (pk_seq (pk_blk (pk_seq (pk_loop (pk_blk (pk_seq pk_fn)))))))))) (by kernel_rfl) rfl ?_
                    refine a_done (by kernel_rfl) ?_
                    refine e_blk ?_
                    refine e_seq ?_
                    refine w_region ?_
                    refine o_y (y_move rfl) rfl rfl ?_
                    refine o_y (y_addi rfl rfl (by omega) (by omega)) rfl rfl ?_
                    refine o_y (y_assign rfl) rfl rfl ?_
                    refine wl_nil ?_
                    refine e_back (j + 1) ?_ ?_ ⟨rfl, lk rfl (congrArg Value.bool (by rw [any_succ' hj1]; first | (rw [h28_0]; rfl) | (rw [h28_0, h28_10]; rfl))), trivial⟩ (by repeat (first | exact trivial | refine ⟨rfl, ?_⟩)) (fun w h => h)
                    · omega
                    · omega
              · skip
                refine wl_nil ?_
                refine e_seq ?_
                refine w_cond_f rfl ?_
                refine w_exit ?_
                refine e_seq_exit ?_
                refine e_loop_exit ?_
                refine e_blk_hit ?_
                refine e_seq ?_
                refine w_seq ?_
                have hj9 : j = acc2.length := by omega
                subst hj9
                rw [List.take_length]
                refine w_region ?_
                refine o_y (y_move rfl) rfl rfl ?_
                have hda2 : (acc2.any fun y => same2 y ((cands s n).getD i [])) = decide (foldN ((cands s n).getD i []) ∈ dedS [] ((cands s n).take i)) := by rw [hI9]; exact hda
                refine wl_splitb (t := 94) rfl (fun h29_0 => ?_) (fun h29_0 => ?_)
                · skip
                  refine o_y (y_not rfl) rfl rfl ?_
                  refine wl_nil ?_
                  refine e_seq ?_
                  refine w_cond_f rfl ?_
                  refine w_skip ?_
                  refine e_blk ?_
                  refine e_seq ?_
                  refine w_region ?_
                  refine o_y (y_move rfl) rfl rfl ?_
                  refine o_y (y_addi rfl rfl (by omega) (by omega)) rfl rfl ?_
                  refine o_y (y_assign rfl) rfl rfl ?_
                  refine wl_nil ?_
                  refine e_back ((i + 1, acc2, A12, c12)) ?_ ?_ ⟨rfl, rfl, trivial⟩ (by repeat (first | exact trivial | refine ⟨rfl, ?_⟩)) (fun w h => h)
                  · have hys : foldN ((cands s n).getD i []) ∈ dedS [] ((cands s n).take i) := of_decide_eq_true (hda2 ▸ h29_0)
                    exact ⟨by show i + 1 ≤ _; omega, by show _ = ded [] ((cands s n).take (i + 1)); rw [take_getD _ [] i hi1, (dedS_no hys).2]; exact hI9, by show acc2.length ≤ i + 1; omega⟩
                  · show (cands s n).length - (i + 1) < (cands s n).length - i
                    omega
                · skip
                  refine o_y (y_not rfl) rfl rfl ?_
                  refine wl_nil ?_
                  refine e_seq ?_
                  refine w_cond_t rfl ?_
                  refine w_region ?_
                  refine o_y (y_move rfl) rfl rfl ?_
                  refine o_y (y_move rfl) rfl rfl ?_
                  refine o_y (y_move rfl) rfl rfl ?_
                  refine o_y (y_ixm  Tryz.underlying59 ty_26 rfl rfl (rs_L 2 rfl) rfl (by omega)) rfl rfl ?_
                  refine o_y (y_ldm0 enc_s ([] : Str) ty_26 rfl (rs_L 2 rfl) (by omega) rfl rfl) rfl rfl ?_
                  refine o_bsl (vs := [_]) ([(cands s n).getD i []] : List (Str)) enc_s Tryz.underlying59 ty_26 rfl rfl rfl rfl rfl rfl (fun As15 => ?_)
                  refine o_appm (enc := encs) (sz := 1) _ Tryz.underlying59 ty_26 rfl rfl rfl (fun A c => (.s (.z))) (src_L 0 Tryz.underlying59 rfl) (by simp only [List.length_cons, List.length_nil, Nat.zero_add]; omega) (by simp only [List.length_cons, List.length_nil, Nat.zero_add]; omega) rfl (fun A15 c15 => ?_)
                  refine o_y (y_assign rfl) rfl rfl ?_
                  refine wl_nil ?_
                  refine e_blk ?_
                  refine e_seq ?_
                  refine w_region ?_
                  refine o_y (y_move rfl) rfl rfl ?_
                  refine o_y (y_addi rfl rfl (by omega) (by omega)) rfl rfl ?_
                  refine o_y (y_assign rfl) rfl rfl ?_
                  refine wl_nil ?_
                  refine e_back ((i + 1, acc2 ++ [(cands s n).getD i []], A15, c15)) ?_ ?_ ⟨rfl, rfl, trivial⟩ (by repeat (first | exact trivial | refine ⟨rfl, ?_⟩)) (fun w h => h.weak (.cons _ (List.Sublist.refl _)) (fun s hs => hs))
                  · have hns : ¬ foldN ((cands s n).getD i []) ∈ dedS [] ((cands s n).take i) := of_decide_eq_false (hda2 ▸ h29_0)
                    exact ⟨by show i + 1 ≤ _; omega, by show _ = ded [] ((cands s n).take (i + 1)); rw [take_getD _ [] i hi1, (dedS_yes hns).2, ← hI9], by show (acc2 ++ [_]).length ≤ i + 1; simp; omega⟩
                  · show (cands s n).length - (i + 1) < (cands s n).length - i
                    omega
            · skip
              refine wl_nil ?_
              refine e_seq ?_
              refine w_cond_f rfl ?_
              refine w_exit ?_
              refine e_seq_exit ?_
              refine e_loop_exit ?_
              refine e_blk_hit ?_
              refine e_seq ?_
              refine w_seq ?_
              refine w_region ?_
              refine o_y (y_move rfl) rfl rfl ?_
              refine o_y (y_assign rfl) rfl rfl ?_
              refine o_y (y_assign rfl) rfl rfl ?_
              refine wl_nil ?_
              refine e_seq ?_
              refine w_ret ?_
              refine e_ret (ts := [4, 5]) rfl rfl rfl (fun w hw => ?_)
              have hi9 : i = (cands s n).length := by omega
              subst hi9
              have hE : eachS s n = acc2 := by rw [hok.each, hI.2.1, List.take_length]
              exact ⟨(A12, c12), by rw [hok.names, hE]; rfl, hw.base, by rw [hE]; exact (hw.weak (.cons_cons _ (.cons _ (.cons _ (.cons _ (.cons _ .slnil))))) (fun s hs => hs)).toNews⟩
  · skip
    refine wl_nil ?_
    refine e_seq ?_
    refine w_cond_f rfl ?_
    refine w_skip ?_
    refine e_seq ?_
    refine w_seq ?_
    refine w_seq ?_
    refine w_region ?_
    refine o_y (y_move rfl) rfl rfl ?_
    refine o_y (y_neq rfl rfl) rfl rfl ?_
    refine wl_at (t := 23) rfl h2_1 ?_
    refine wl_nil ?_
    refine e_seq ?_
    refine w_cond_t rfl ?_
    refine w_seq ?_
    refine w_region ?_
    refine o_y (y_move rfl) rfl rfl ?_
    refine o_y (y_assign rfl) rfl rfl ?_
    refine o_y (y_assign rfl) rfl rfl ?_
    refine wl_nil ?_
    refine e_seq ?_
    refine w_ret ?_
    refine e_seq_ret ?_
    refine e_ret (ts := [4, 5]) rfl rfl rfl (fun w hw => ?_)
    first
      | (have hE : eachS s n = [] := each_bad (.inl h2_1)
         have hF : namesE s n = srCk s := if_pos h2_1
         exact ⟨(none, 0), by rw [hE, hF]; rfl, hw.base, by rw [hE]; exact ((hw.weak (List.nil_sublist _) (fun s hs => hs)).nilsl 26 1).toNews⟩)
      | (have hE : eachS s n = [] := each_bad (.inr h4_1)
         have hF : namesE s n = nameCk n := if_neg (fun q => q h2_1)
         exact ⟨(none, 0), by rw [hE, hF]; rfl, hw.base, by rw [hE]; exact ((hw.weak (List.nil_sublist _) (fun s hs => hs)).nilsl 26 1).toNews⟩)
      | (trace_state; fail)

theorem c_ref20_First (v : Int) (l : List Le) (F : Option Addr) (d : Nat) (b : Nat) (H : Option Addr) (h : Nat) (s : Sr) (A : Option Addr) (c : Nat) (n : Str) (Fb : Str → Bool) (hF : ∀ k r, RefSpec l k r → r.isSome = Fb k) (hok : TbOk l) (hlen : l.length ≤ 1000000000) (hnl : n.length ≤ 1000000000) : RC Tryz.prog 46 #[.pointer (some ⟨b, 0, none⟩), .agg (srC s A c).toArray, .string (ba n)] [Ch.row b [.int .i64 v, .slice F l.length d, .slice H 0 h] 116, Ch.rd F 7 elC l, Ch.rall (l.flatMap elR), Ch.rd A 1 encs s.doms] (α := Unit) (fun _ => .tuple #[.string (ba (((eachS s n).find? Fb).getD [])), .bool ((eachS s n).find? Fb).isSome]) (fun _ => []) := by
  refine rc_of_W (args := [.pointer (some ⟨b, 0, none⟩), .agg (srC s A c).toArray, .string (ba n)]) 39 Tryz.func46 rfl rfl rfl (fun w0 => ?_)
  refine w_seq ?_
  refine w_region ?_
  refine o_box rfl rfl rfl (fun b1 => ?_)
  refine o_y (y_assign rfl) rfl rfl ?_
  refine o_y (y_assign rfl) rfl rfl ?_
  refine wl_nil ?_
  refine e_seq ?_
  refine w_seq ?_
  refine w_region ?_
  refine o_y (y_loadrs 0 ty_82 rfl rfl rfl rfl) rfl rfl ?_
  refine o_y (y_move rfl) rfl rfl ?_
  refine o_callr1 rfl ent_41 rfl (c_ref20_Names _ _ _ _ (by omega)) (fun w hw => (rd_cons (rd_S 3 rfl hw) rd_nil)) (fun ⟨A1, c1⟩ => ?_)
  refine o_y (y_move rfl) rfl rfl ?_
  refine o_y (y_extract rfl rfl) rfl rfl ?_
  refine o_y (y_extract rfl rfl) rfl rfl ?_
  refine o_y (y_assign rfl) rfl rfl ?_
  refine o_y (y_assign rfl) rfl rfl ?_
  refine wl_nil ?_
  refine e_seq ?_
  refine w_seq ?_
  refine w_seq ?_
  have hce : (eachS s n).length ≤ 7 := by
    by_cases h : 0 < (eachS s n).length
    · have h1 := each_ok h
      have h2 := h1.len
      have h3 := (srCk_zero h1.s0).1
      omega
    · omega
  refine w_region ?_
  refine o_y (y_assign rfl) rfl rfl ?_
  refine wl_nil ?_
  refine e_seq ?_
  refine w_block ?_
  refine w_loop0 (σ := Nat) [6, 7, 10, 11, 12, 19, 20, 21, 22, 23, 24, 25, 26, 27, 28, 29, 30, 31, 32, 33, 34, 35, 36, 37, 38] (fun k => k ≤ (eachS s n).length ∧ ∀ q, q < k → Fb ((eachS s n).getD q []) = false) (fun k => (eachS s n).length - k) (fun k => [(10, .int .i64 k)]) (0) ?_ ⟨rfl, trivial⟩ (fun k hI => ?_)
  · exact ⟨Nat.zero_le _, nofun⟩
  refine w_seq ?_
  refine w_seq ?_
  refine w_region ?_
  refine o_y (y_move rfl) rfl rfl ?_
  refine o_y (y_move rfl) rfl rfl ?_
  refine o_y (y_lenl Tryz.underlying59 rfl) rfl rfl ?_
  refine o_y (y_lss rfl rfl) rfl rfl ?_
  refine wl_splitp (t := 22) rfl (fun h3_3 => ?_) (fun h3_3 => ?_)
  · skip
    refine wl_nil ?_
    refine e_seq ?_
    refine w_cond_t rfl ?_
    refine w_skip ?_
    refine e_seq ?_
    refine w_seq ?_
    refine w_block ?_
    refine w_seq ?_
    have hk1 : k < (eachS s n).length := by omega
    have hoS := each_ok (s := s) (n := n) (by omega)
    have hel := hoS.xlen _ (mem_getD (d := ([] : Str)) hk1)
    refine w_region ?_
    refine o_y (y_move rfl) rfl rfl ?_
    refine o_y (y_move rfl) rfl rfl ?_
    refine o_y (y_move rfl) rfl rfl ?_
    refine o_y (y_ixm  Tryz.underlying59 ty_26 rfl rfl (rs_L 0 rfl) rfl (by omega)) rfl rfl ?_
    refine o_y (y_ldm0 enc_s ([] : Str) ty_26 rfl (rs_L 0 rfl) (by omega) rfl rfl) rfl rfl ?_
    refine o_callr0 rfl ent_15 rfl (c_ref18_Find v l F d b H h _ hok (by omega) hel) (fun w hw => (rd_cons (rd_S 0 rfl hw) (rd_cons (rd_S 1 rfl hw) (rd_cons (rd_S 2 rfl hw) rd_nil)))) (fun ⟨rr2, hrr2⟩ => ?_)
    refine o_y (y_move rfl) rfl rfl ?_
    refine o_y (y_extract rfl rfl) rfl rfl ?_
    refine o_y (y_extract rfl rfl) rfl rfl ?_
    refine wl_as (t := 33) (.bool (Fb ((eachS s n).getD k []))) rfl (congrArg Value.bool (hF _ _ hrr2)) ?_
    refine wl_splitb (t := 33) rfl (fun h5_8 => ?_) (fun h5_8 => ?_)
    · skip
      refine o_alloc ty_34 rfl rfl (fun b4 => ?_)
      refine o_store ty_34 rfl rfl rfl .z rfl rfl rfl rfl ?_
      refine o_y (y_assign rfl) rfl rfl ?_
      refine wl_nil ?_
      refine e_seq ?_
      refine w_seq ?_
      refine w_region ?_
      refine o_y (y_move rfl) rfl rfl ?_
      refine wl_nil ?_
      refine e_seq ?_
      refine w_cond_t rfl ?_
      refine w_seq ?_
      refine w_region ?_
      refine o_y (y_move rfl) rfl rfl ?_
      refine o_y (y_move rfl) rfl rfl ?_
      refine o_y (y_ixm  Tryz.underlying59 ty_26 rfl rfl (rs_L 1 rfl) rfl (by omega)) rfl rfl ?_
      refine o_y (y_ldm0 enc_s ([] : Str) ty_26 rfl (rs_L 1 rfl) (by omega) rfl rfl) rfl rfl ?_
      refine o_y (y_assign rfl) rfl rfl ?_
      refine o_y (y_assign rfl) rfl rfl ?_
      refine wl_nil ?_
      refine e_seq ?_
      refine w_ret ?_
      refine e_blk_ret ?_
      refine e_seq_ret ?_
      refine e_loop_ret ?_
      refine e_blk_ret ?_
      refine e_seq_ret ?_
      refine e_ret (ts := [6, 7]) rfl rfl rfl (fun w hw => ?_)
      exact ⟨(), by rw [find_at (by omega) hI.2 h5_8]; rfl, hw.base, (hw.weak (List.nil_sublist _) (fun s hs => hs)).toNews⟩
    · skip
      refine o_alloc ty_34 rfl rfl (fun b5 => ?_)
      refine o_store ty_34 rfl rfl rfl .z rfl rfl rfl rfl ?_
      refine o_y (y_assign rfl) rfl rfl ?_
      refine wl_nil ?_
      refine e_seq ?_
      refine w_seq ?_
      refine w_region ?_
      refine o_y (y_move rfl) rfl rfl ?_
      refine wl_nil ?_
      refine e_seq ?_
      refine w_cond_f rfl ?_
      refine w_skip ?_
      refine e_blk ?_
      refine e_seq ?_
      refine w_region ?_
      refine o_y (y_move rfl) rfl rfl ?_
      refine o_y (y_addi rfl rfl (by omega) (by omega)) rfl rfl ?_
      refine o_y (y_assign rfl) rfl rfl ?_
      refine wl_nil ?_
      refine e_back (k + 1) ?_ ?_ ⟨rfl, trivial⟩ (by repeat (first | exact trivial | refine ⟨rfl, ?_⟩)) (fun w h => h.weak (.cons _ (List.Sublist.refl _)) (fun s hs => hs))
      · exact ⟨by omega, all_succ hI.2 h5_8⟩
      · omega
  · skip
    refine wl_nil ?_
    refine e_seq ?_
    refine w_cond_f rfl ?_
    refine w_exit ?_
    refine e_seq_exit ?_
    refine e_loop_exit ?_
    refine e_blk_hit ?_
    refine e_seq ?_
    refine w_seq ?_
    refine w_region ?_
    refine o_y (y_assign rfl) rfl rfl ?_
    refine o_y (y_assign rfl) rfl rfl ?_
    refine wl_nil ?_
    refine e_seq ?_
    refine w_ret ?_
    refine e_ret (ts := [6, 7]) rfl rfl rfl (fun w hw => ?_)
    exact ⟨(), by rw [find_no (fun q hq => hI.2 q (by omega))]; rfl, hw.base, (hw.weak (List.nil_sublist _) (fun s hs => hs)).toNews⟩

theorem c_each20 (s : Sr) (A : Option Addr) (c : Nat) (n : Str) : RC Tryz.prog 42 #[.agg (srC s A c).toArray, .string (ba n)] [Ch.rd A 1 encs s.doms] (α := Option Addr × Nat) (fun p => .tuple #[.slice p.1 (eachS s n).length p.2, .bool true]) (fun p => [Ch.ls p.1 p.2 26 1 encs (eachS s n)]) := by
  refine rc_of_WM (args := [.agg (srC s A c).toArray, .string (ba n)]) 24 Tryz.func42 rfl rfl rfl (fun w0 => ?_)
  refine w_seq ?_
  refine w_region ?_
  refine o_box rfl rfl rfl (fun b1 => ?_)
  refine o_alloc ty_59 rfl rfl (fun b2 => ?_)
  refine o_alloc ty_4 rfl rfl (fun b3 => ?_)
  refine wl_nil ?_
  refine e_seq ?_
  refine w_seq ?_
  refine w_region ?_
  refine o_y (y_loadrs 2 ty_82 rfl rfl rfl rfl) rfl rfl ?_
  refine o_y (y_move rfl) rfl rfl ?_
  refine o_callr2 rfl ent_86 rfl (c_Each _ _ _ _) (fun w hw => rd_nil) (fun ⟨p3, q3⟩ => ?_)
  refine wl_heap (fun w h => h.freeze.freeze) ?_
  refine o_y (y_assign rfl) rfl rfl ?_
  refine wl_nil ?_
  refine e_seq ?_
  refine w_seq ?_
  refine w_seq ?_
  refine w_region ?_
  refine o_y (y_move rfl) rfl rfl ?_
  refine o_y (y_eqfn Tryz.underlying137 rfl rfl) rfl rfl ?_
  refine wl_nil ?_
  refine e_seq ?_
  refine w_cond_f rfl ?_
  refine w_skip ?_
  refine e_seq ?_
  refine w_seq ?_
  refine w_region ?_
  refine o_alloc ty_59 rfl rfl (fun b5 => ?_)
  refine wl_nil ?_
  refine e_seq ?_
  refine w_seq ?_
  refine w_seq ?_
  refine w_region ?_
  refine o_y (y_move rfl) rfl rfl ?_
  refine wl_nil ?_
  refine e_seq ?_
  refine w_block ?_
  refine w_heap (fun w h => h.nilsl 26 1) ?_
  refine w_range (σ := List Str × Option Addr × Nat) (fun pre g => g.1 = pre) (fun c pre g => False) (fun g => [Ch.ls g.2.1 g.2.2 26 1 encs g.1, Ch.row b5 [.slice g.2.1 g.1.length g.2.2] 59, Ch.row b3 [.bool false] 4, Ch.row b2 [.slice none 0 0] 59, Ch.row b1 (srC s A c) 82]) (([], none, 0)) rfl rfl ent_115 (c_Each1 s A c n p3 q3) (List.forall_mem_cons.2 ⟨.head _, List.forall_mem_cons.2 ⟨.tail _ (.head _), List.forall_mem_cons.2 ⟨.tail _ (.tail _ (.head _)), nofun⟩⟩⟩) rfl (fun _ => rfl) (rfl) rfl (fun pre e post g hxs hI lr D r hr okb wb => ?_) (fun g D0 hI => ?_) (fun c pre post g D0 hxs hI => ?_)
  · skip
    obtain ⟨q, Ax, cx⟩ := g
    dsimp only at hI ⊢
    subst hI
    have hok9 := each_ok (s := s) (n := n) (by rw [hxs]; simp; omega)
    have hln := hok9.len
    have hl6 := (srCk_zero hok9.s0).1
    rw [hxs] at hln
    have hql : q.length ≤ 6 := by simp at hln; omega
    refine w_region ?_
    refine o_y (y_assign rfl) rfl rfl ?_
    refine wl_nil ?_
    refine e_begin rfl hr .z ?_
    refine w_block ?_
    refine w_seq ?_
    refine w_seq ?_
    refine w_region ?_
    refine o_y (y_loadr 3 ty_59 rfl rfl rfl) rfl rfl ?_
    refine o_y (y_lenl Tryz.underlying59 rfl) rfl rfl ?_
    refine o_y (y_gtr rfl rfl) rfl rfl ?_
    refine wl_af (t := 18) rfl (by omega) ?_
    refine wl_nil ?_
    refine e_seq ?_
    refine w_cond_f rfl ?_
    refine w_skip ?_
    refine e_seq ?_
    refine w_region ?_
    refine o_y (y_loadr 3 ty_59 rfl rfl rfl) rfl rfl ?_
    refine o_y (y_move rfl) rfl rfl ?_
    refine o_bsl (vs := [_]) ([_] : List (Str)) enc_s Tryz.underlying59 ty_26 rfl rfl rfl rfl rfl rfl (fun As6 => ?_)
    refine o_appm (enc := encs) (sz := 1) _ Tryz.underlying59 ty_26 rfl rfl rfl (fun A c => (.s (.s (.s (.z))))) (src_L 0 Tryz.underlying59 rfl) (by simp only [List.length_cons, List.length_nil, Nat.zero_add]; omega) (by simp only [List.length_cons, List.length_nil, Nat.zero_add]; omega) rfl (fun A6 c6 => ?_)
    refine o_store ty_59 rfl rfl rfl (.s (.s (.s (.s (.z))))) rfl rfl rfl rfl ?_
    refine wl_nil ?_
    refine e_blk ?_
    refine e_rend ((q ++ [e], A6, c6)) ?_ (fun w h => h.weak (.cons _ (List.Sublist.refl _)) (fun s hs => hs))
    · rfl
  · skip
    obtain ⟨q, Ax, cx⟩ := g
    dsimp only at hI ⊢
    subst hI
    refine e_blk ?_
    refine e_seq ?_
    refine w_seq ?_
    refine w_region ?_
    refine o_y (y_loadr 2 ty_59 rfl rfl rfl) rfl rfl ?_
    refine o_store ty_59 rfl rfl rfl (.s (.s (.s (.s (.z))))) rfl rfl rfl rfl ?_
    refine o_store ty_4 rfl rfl rfl (.s (.s (.s (.z)))) rfl rfl rfl rfl ?_
    refine wl_nil ?_
    refine e_seq ?_
    refine w_ret ?_
    refine e_lvr ?_
    refine lv_take .z ?_
    refine lv_nil (rs := [.cell 4 59, .cell 5 4]) rfl (rs_cell 4 ty_59 rfl rfl rfl (rs_cell 3 ty_4 rfl rfl rfl rs_nil)) (fun w hw => ?_)
    exact ⟨(Ax, cx), rfl, hw.base, (hw.weak (.cons _ (.cons_cons _ (.cons _ (.cons _ (.cons _ (.cons _ .slnil)))))) (fun s hs => hs)).toNews⟩
  · skip
    exact hI.elim

set_option maxRecDepth 100000 in
set_option maxHeartbeats 4000000 in
theorem c_SearchCalls (s : Sr) (A : Option Addr) (c : Nat) (n : Str) (v : Int) (l : List Le) (F : Option Addr) (d : Nat) (hsl : s.doms.length ≤ 9223372036854775807) (hnl : n.length ≤ 9223372036854775807) (hen : ∀ x ∈ l, EnOk x.e) (hll : l.length ≤ 9223372036854775807) : RC Tryz.prog 5 #[.agg (srC s A c).toArray, .string (ba n), .agg (tbC v F l.length d).toArray] [Ch.rd A 1 encs s.doms, Ch.rd F 7 elC l, Ch.rall (l.flatMap elR)] (α := Unit) (fun _ => .bool true) (fun _ => []) := by
  refine rc_of_W (args := [.agg (srC s A c).toArray, .string (ba n), .agg (tbC v F l.length d).toArray]) 118 Tryz.func5 rfl rfl rfl (fun w0 => ?_)
  rcases Decidable.em (tabCk v l = 0) with hT | hT
  · skip
    refine w_seq ?_
    refine w_region ?_
    refine o_box rfl rfl rfl (fun b1 => ?_)
    refine o_box rfl rfl rfl (fun b2 => ?_)
    refine o_y (y_assign rfl) rfl rfl ?_
    refine wl_nil ?_
    refine e_seq ?_
    refine w_seq ?_
    refine w_seq ?_
    refine w_region ?_
    refine o_callp rfl ent_38 c_lives20 rfl ?_
    refine wl_as (t := 21) (.bool true) rfl (congrArg Value.bool rfl) ?_
    refine o_y (y_not rfl) rfl rfl ?_
    refine wl_nil ?_
    refine e_seq ?_
    refine w_cond_f rfl ?_
    refine w_skip ?_
    refine e_seq ?_
    refine w_seq ?_
    refine w_seq ?_
    refine w_region ?_
    refine o_y (y_loadrs 1 ty_82 rfl rfl rfl rfl) rfl rfl ?_
    refine o_y (y_move rfl) rfl rfl ?_
    refine o_callq rfl ent_39 rfl (c_light20 _ _ _ _ (by omega)) (fun w hw => (rd_cons (rd_S 0 rfl hw) rd_nil)) ?_
    refine wl_splitb (t := 25) rfl (fun h3_2 => ?_) (fun h3_2 => ?_)
    · skip
      simp only [Bool.and_eq_true, decide_eq_true_eq] at h3_2
      have hn3 := h3_2.2
      refine o_y (y_not rfl) rfl rfl ?_
      refine o_y (y_move rfl) rfl rfl ?_
      refine wl_gyes rfl rfl ?_
      refine o_y (y_field fa_24_1 rfl) rfl rfl ?_
      refine wl_gyes rfl rfl ?_
      refine o_y (y_loadr 0 ty_22 rfl rfl rfl) rfl rfl ?_
      refine wl_gyes rfl rfl ?_
      refine o_callq rfl ent_7 rfl (c_LightEntries _ _ _ _ (by omega)) (fun w hw => (rd_cons (rd_S 1 rfl hw) rd_nil)) ?_
      refine wl_splitb (t := 30) rfl (fun h3_7 => ?_) (fun h3_7 => ?_)
      · skip
        have hle9 := lightEs_le h3_7
        have hok : TbOk l := fun x hx => ⟨hen x hx, hle9.1 x hx⟩
        have hl9 := hle9.2
        have hce : (eachS s n).length ≤ 7 := by
          by_cases h : 0 < (eachS s n).length
          · have h1 := each_ok h
            have h2 := h1.len
            have h3 := (srCk_zero h1.s0).1
            omega
          · omega
        refine wl_gyes rfl rfl ?_
        refine o_y (y_not rfl) rfl rfl ?_
        refine o_y (y_pick_f rfl rfl) rfl rfl ?_
        refine wl_nil ?_
        refine e_seq ?_
        refine w_cond_f rfl ?_
        refine w_skip ?_
        refine e_seq ?_
        refine w_seq ?_
        refine w_region ?_
        refine o_y (y_loadrs 1 ty_82 rfl rfl rfl rfl) rfl rfl ?_
        refine o_y (y_move rfl) rfl rfl ?_
        refine o_callr1 rfl ent_40 rfl (c_search_Names _ _ _ _) (fun w hw => (rd_cons (rd_S 0 rfl hw) rd_nil)) (fun ⟨A2, c2⟩ => ?_)
        refine o_y (y_move rfl) rfl rfl ?_
        refine o_y (y_extract rfl rfl) rfl rfl ?_
        refine o_y (y_extract rfl rfl) rfl rfl ?_
        refine o_y (y_assign rfl) rfl rfl ?_
        refine o_y (y_assign rfl) rfl rfl ?_
        refine wl_nil ?_
        refine e_seq ?_
        refine w_seq ?_
        refine w_region ?_
        refine o_y (y_loadrs 2 ty_82 rfl rfl rfl rfl) rfl rfl ?_
        refine o_y (y_move rfl) rfl rfl ?_
        refine o_callr1 rfl ent_41 rfl (c_ref20_Names _ _ _ _ (by omega)) (fun w hw => (rd_cons (rd_S 0 rfl hw) rd_nil)) (fun ⟨A3, c3⟩ => ?_)
        refine o_y (y_move rfl) rfl rfl ?_
        refine o_y (y_extract rfl rfl) rfl rfl ?_
        refine o_y (y_extract rfl rfl) rfl rfl ?_
        refine o_y (y_assign rfl) rfl rfl ?_
        refine o_y (y_assign rfl) rfl rfl ?_
        refine wl_nil ?_
        refine e_seq ?_
        refine w_seq ?_
        refine w_region ?_
        refine o_y (y_loadrs 3 ty_82 rfl rfl rfl rfl) rfl rfl ?_
        refine o_y (y_move rfl) rfl rfl ?_
        refine o_callr1 rfl ent_42 rfl (c_each20 _ _ _ _) (fun w hw => (rd_cons (rd_S 0 rfl hw) rd_nil)) (fun ⟨A4, c4⟩ => ?_)
        refine o_y (y_move rfl) rfl rfl ?_
        refine o_y (y_extract rfl rfl) rfl rfl ?_
        refine o_y (y_extract rfl rfl) rfl rfl ?_
        refine wl_as (t := 50) (.bool true) rfl (congrArg Value.bool rfl) ?_
        refine o_y (y_assign rfl) rfl rfl ?_
        refine o_y (y_assign rfl) rfl rfl ?_
        refine wl_nil ?_
        refine e_seq ?_
        refine w_seq ?_
        refine w_seq ?_
        refine w_draw 26 rfl mixed ?_
        refine a_take (i := 0) rfl wanted_none (y_move rfl) (fun w h => h) (fun w h => h) rfl (pk_seq (pk_seq pk_fn)) (by kernel_rfl) rfl ?_
        refine a_take (i := 1) rfl wanted_none (y_move rfl) (fun w h => h) (fun w h => h) rfl (pk_seq (pk_seq pk_fn)) (by kernel_rfl) rfl ?_
        refine a_one (i := 2) rfl rfl rfl (tame_call rfl ent_23) (by kernel_rfl) rfl ?_
        refine o_callq rfl ent_23 rfl (c_kit_Same_n _ _ _ _ _ _ (by omega)) (fun w hw => (rd_cons (rd_Ls 2 rfl hw) (rd_cons (rd_Ls 1 rfl hw) rd_nil))) ?_
        refine wl_nil ?_
        refine e_one (fun w h => h) ?_
        refine wa_as (t := 53) (.bool true) rfl (congrArg Value.bool (decide_eq_true rfl)) ?_
        refine a_take (i := 3) rfl wanted_none (y_not rfl) (fun w h => h) (fun w h => h) rfl (pk_seq (pk_seq pk_fn)) (by kernel_rfl) rfl ?_
        refine a_take (i := 4) rfl wanted_none (y_move rfl) (fun w h => h) (fun w h => h) rfl (pk_seq (pk_seq pk_fn)) (by kernel_rfl) rfl ?_
        refine a_take (i := 5) rfl (wanted_yes rfl rfl) (y_move rfl) (fun w h => h) (fun w h => h) rfl (pk_seq (pk_seq pk_fn)) (by kernel_rfl) rfl ?_
        refine a_take (i := 6) rfl (wanted_yes rfl rfl) (y_move rfl) (fun w h => h) (fun w h => h) rfl (pk_seq (pk_seq pk_fn)) (by kernel_rfl) rfl ?_
        refine a_take (i := 7) rfl (wanted_yes rfl rfl) (y_neq rfl rfl) (fun w h => h) (fun w h => h) rfl (pk_seq (pk_seq pk_fn)) (by kernel_rfl) rfl ?_
        refine wa_af (t := 58) rfl (fun h => h rfl) ?_
        refine a_take (i := 8) rfl wanted_none (y_pick_f rfl rfl) (fun w h => h) (fun w h => h) rfl (pk_seq (pk_seq pk_fn)) (by kernel_rfl) rfl ?_
        refine a_take (i := 9) rfl wanted_none (y_move rfl) (fun w h => h) (fun w h => h) rfl (pk_seq (pk_seq pk_fn)) (by kernel_rfl) rfl ?_
        refine a_take (i := 10) rfl (wanted_yes rfl rfl) (y_loadrs 4 ty_82 rfl rfl rfl rfl) (fun w h => h) (fun w h => h) rfl (pk_seq (pk_seq pk_fn)) (by kernel_rfl) rfl ?_
        refine a_take (i := 12) rfl (wanted_yes rfl rfl) (y_loadrs 4 ty_82 rfl rfl rfl rfl) (fun w h => h) (fun w h => h) rfl (pk_seq (pk_seq pk_fn)) (by kernel_rfl) rfl ?_
        refine a_one (i := 11) rfl rfl rfl (tame_call rfl ent_43) (by kernel_rfl) rfl ?_
        refine wl_gyes rfl rfl ?_
        refine o_callq rfl ent_43 rfl (c_search_Check _ _ _) (fun w hw => (rd_cons (rd_S 0 rfl hw) rd_nil)) ?_
        refine wl_nil ?_
        refine e_one (fun w h => h) ?_
        refine a_one (i := 13) rfl rfl rfl (tame_call rfl ent_44) (by kernel_rfl) rfl ?_
        refine wl_gyes rfl rfl ?_
        refine o_callq rfl ent_44 rfl (c_ref20_Check _ _ _) (fun w hw => (rd_cons (rd_S 0 rfl hw) rd_nil)) ?_
        refine wl_nil ?_
        refine e_one (fun w h => h) ?_
        refine a_take (i := 14) rfl (wanted_yes rfl rfl) (y_neq rfl rfl) (fun w h => h) (fun w h => h) rfl (pk_seq (pk_seq pk_fn)) (by kernel_rfl) rfl ?_
        refine wa_af (t := 65) rfl (fun h => h rfl) ?_
        refine a_take (i := 15) rfl wanted_none (y_pick_f rfl rfl) (fun w h => h) (fun w h => h) rfl (pk_seq (pk_seq pk_fn)) (by kernel_rfl) rfl ?_
        refine a_take (i := 16) rfl wanted_none (y_move rfl) (fun w h => h) (fun w h => h) rfl (pk_seq (pk_seq pk_fn)) (by kernel_rfl) rfl ?_
        refine a_take (i := 17) rfl (wanted_yes rfl rfl) (y_move rfl) (fun w h => h) (fun w h => h) rfl (pk_seq (pk_seq pk_fn)) (by kernel_rfl) rfl ?_
        refine a_take (i := 18) rfl (wanted_yes rfl rfl) (y_not rfl) (fun w h => h) (fun w h => h) rfl (pk_seq (pk_seq pk_fn)) (by kernel_rfl) rfl ?_
        refine a_take (i := 19) rfl wanted_none (y_pick_f rfl rfl) (fun w h => h) (fun w h => h) rfl (pk_seq (pk_seq pk_fn)) (by kernel_rfl) rfl ?_
        refine a_take (i := 20) rfl wanted_none (y_move rfl) (fun w h => h) (fun w h => h) rfl (pk_seq (pk_seq pk_fn)) (by kernel_rfl) rfl ?_
        refine a_take (i := 21) rfl (wanted_yes rfl rfl) (y_move rfl) (fun w h => h) (fun w h => h) rfl (pk_seq (pk_seq pk_fn)) (by kernel_rfl) rfl ?_
        refine a_take (i := 22) rfl (wanted_yes rfl rfl) (y_move rfl) (fun w h => h) (fun w h => h) rfl (pk_seq (pk_seq pk_fn)) (by kernel_rfl) rfl ?_
        refine a_one (i := 23) rfl rfl rfl (tame_call rfl ent_23) (by kernel_rfl) rfl ?_
        refine wl_gyes rfl rfl ?_
        refine o_callq rfl ent_23 rfl (c_kit_Same_n _ _ _ _ _ _ (by omega)) (fun w hw => (rd_cons (rd_Ls 0 rfl hw) (rd_cons (rd_Ls 1 rfl hw) rd_nil))) ?_
        refine wl_nil ?_
        refine e_one (fun w h => h) ?_
        refine wa_as (t := 74) (.bool true) rfl (congrArg Value.bool (decide_eq_true rfl)) ?_
        refine a_take (i := 24) rfl (wanted_yes rfl rfl) (y_not rfl) (fun w h => h) (fun w h => h) rfl (pk_seq (pk_seq pk_fn)) (by kernel_rfl) rfl ?_
        refine a_take (i := 25) rfl wanted_none (y_pick_f rfl rfl) (fun w h => h) (fun w h => h) rfl (pk_seq (pk_seq pk_fn)) (by kernel_rfl) rfl ?_
        refine a_done (by kernel_rfl) ?_
        refine e_seq ?_
        refine w_cond_f rfl ?_
        refine w_skip ?_
        refine e_seq ?_
        refine w_seq ?_
        refine w_region ?_
        refine o_y (y_loadrs 3 ty_24 rfl rfl rfl rfl) rfl rfl ?_
        refine o_callr1 rfl ent_13 rfl (c_ref18_New0 v l F d hok (by omega) hT) (fun w hw => (rd_cons (rd_S 1 rfl hw) (rd_cons (rd_S 2 rfl hw) rd_nil))) (fun ⟨rb, rH, rh⟩ => ?_)
        refine o_y (y_move rfl) rfl rfl ?_
        refine o_y (y_extract rfl rfl) rfl rfl ?_
        refine o_y (y_extract rfl rfl) rfl rfl ?_
        refine o_y (y_assign rfl) rfl rfl ?_
        refine o_y (y_assign rfl) rfl rfl ?_
        refine wl_nil ?_
        refine e_seq ?_
        refine w_seq ?_
        refine w_region ?_
        refine o_y (y_loadrs 4 ty_24 rfl rfl rfl rfl) rfl rfl ?_
        refine o_callr1 rfl ent_10 rfl (c_index_New0 v l F d hok (by omega) hT) (fun w hw => (rd_cons (rd_S 1 rfl hw) (rd_cons (rd_S 2 rfl hw) rd_nil))) (fun ⟨ix, hix⟩ => ?_)
        refine o_y (y_move rfl) rfl rfl ?_
        refine o_y (y_extract rfl rfl) rfl rfl ?_
        refine o_y (y_extract rfl rfl) rfl rfl ?_
        refine o_y (y_assign rfl) rfl rfl ?_
        refine o_y (y_assign rfl) rfl rfl ?_
        refine wl_nil ?_
        refine e_seq ?_
        refine w_seq ?_
        refine w_seq ?_
        refine w_region ?_
        refine o_y (y_move rfl) rfl rfl ?_
        refine o_y (y_neq rfl rfl) rfl rfl ?_
        refine wl_af (t := 88) rfl (fun h9 => h9 rfl) ?_
        refine wl_nil ?_
        refine e_seq ?_
        refine w_cond_f rfl ?_
        refine w_skip ?_
        refine e_seq ?_
        refine w_seq ?_
        refine w_region ?_
        refine o_y (y_move rfl) rfl rfl ?_
        refine o_y (y_loadrs 6 ty_82 rfl rfl rfl rfl) rfl rfl ?_
        refine o_y (y_move rfl) rfl rfl ?_
        refine o_callq rfl ent_45 rfl (c_First ix s A c n) (fun w hw => (rd_cons (rd_S 0 rfl hw) (rd_cons (rd_all (rd_L 0 rfl hw) (.head _)) (rd_cons (rd_all (rd_L 0 rfl hw) (.tail _ (.tail _ (.head _)))) rd_nil)))) ?_
        refine o_y (y_move rfl) rfl rfl ?_
        refine o_y (y_extract rfl rfl) rfl rfl ?_
        refine o_y (y_extract rfl rfl) rfl rfl ?_
        refine o_y (y_assign rfl) rfl rfl ?_
        refine o_y (y_assign rfl) rfl rfl ?_
        refine wl_nil ?_
        refine e_seq ?_
        refine w_seq ?_
        refine w_region ?_
        refine o_y (y_move rfl) rfl rfl ?_
        refine o_y (y_loadrs 6 ty_82 rfl rfl rfl rfl) rfl rfl ?_
        refine o_y (y_move rfl) rfl rfl ?_
        refine o_callq rfl ent_46 rfl (c_ref20_First v l F d rb rH rh s A c n (fun k => (findI ix.hm k).isSome) (fun k r hr => find_is hix hT hr) hok (by omega) (by omega)) (fun w hw => (rd_cons (rd_L 1 rfl hw) (rd_cons (rd_S 1 rfl hw) (rd_cons (rd_S 2 rfl hw) (rd_cons (rd_S 0 rfl hw) rd_nil))))) ?_
        refine o_y (y_move rfl) rfl rfl ?_
        refine o_y (y_extract rfl rfl) rfl rfl ?_
        refine o_y (y_extract rfl rfl) rfl rfl ?_
        refine o_y (y_assign rfl) rfl rfl ?_
        refine o_y (y_assign rfl) rfl rfl ?_
        refine wl_nil ?_
        refine e_seq ?_
        refine w_seq ?_
        refine w_region ?_
        refine o_y (y_move rfl) rfl rfl ?_
        refine o_y (y_eql rfl rfl) rfl rfl ?_
        refine wl_at (t := 107) rfl rfl ?_
        refine o_y (y_move rfl) rfl rfl ?_
        refine wl_gyes rfl rfl ?_
        refine o_y (y_move rfl) rfl rfl ?_
        refine wl_gyes rfl rfl ?_
        refine o_y (y_move rfl) rfl rfl ?_
        refine wl_gyes rfl rfl ?_
        refine o_y (y_eqls rfl rfl) rfl rfl ?_
        refine wl_at (t := 111) rfl rfl ?_
        refine o_y (y_pick_t rfl rfl) rfl rfl ?_
        refine o_y (y_move rfl) rfl rfl ?_
        refine wl_gyes rfl rfl ?_
        refine o_y (y_move rfl) rfl rfl ?_
        refine wl_gyes rfl rfl ?_
        refine o_y (y_move rfl) rfl rfl ?_
        refine wl_gyes rfl rfl ?_
        refine o_y (y_eqlb Tryz.underlying4 rfl rfl) rfl rfl ?_
        refine wl_at (t := 116) rfl rfl ?_
        refine o_y (y_pick_t rfl rfl) rfl rfl ?_
        refine o_y (y_assign rfl) rfl rfl ?_
        refine wl_nil ?_
        refine e_seq ?_
        refine w_ret ?_
        refine e_ret (ts := [6]) rfl rfl rfl (fun w hw => ?_)
        exact ⟨(), rfl, hw.base, (hw.weak (List.nil_sublist _) (fun s hs => hs)).toNews⟩
      · skip
        refine wl_gyes rfl rfl ?_
        refine o_y (y_not rfl) rfl rfl ?_
        refine o_y (y_pick_f rfl rfl) rfl rfl ?_
        refine wl_nil ?_
        refine e_seq ?_
        refine w_cond_t rfl ?_
        refine w_seq ?_
        refine w_region ?_
        refine o_y (y_assign rfl) rfl rfl ?_
        refine wl_nil ?_
        refine e_seq ?_
        refine w_ret ?_
        refine e_seq_ret ?_
        refine e_ret (ts := [6]) rfl rfl rfl (fun w hw => ?_)
        exact ⟨(), rfl, hw.base, (hw.weak (List.nil_sublist _) (fun s hs => hs)).toNews⟩
    · skip
      refine o_y (y_not rfl) rfl rfl ?_
      refine o_y (y_move rfl) rfl rfl ?_
      refine wl_gno rfl rfl rfl rfl ?_
      refine wl_gno rfl rfl rfl rfl ?_
      refine wl_gno rfl rfl rfl rfl ?_
      refine wl_gno rfl rfl rfl rfl ?_
      refine o_y (y_pick_t rfl rfl) rfl rfl ?_
      refine wl_nil ?_
      refine e_seq ?_
      refine w_cond_t rfl ?_
      refine w_seq ?_
      refine w_region ?_
      refine o_y (y_assign rfl) rfl rfl ?_
      refine wl_nil ?_
      refine e_seq ?_
      refine w_ret ?_
      refine e_seq_ret ?_
      refine e_ret (ts := [6]) rfl rfl rfl (fun w hw => ?_)
      exact ⟨(), rfl, hw.base, (hw.weak (List.nil_sublist _) (fun s hs => hs)).toNews⟩
  · skip
    refine w_seq ?_
    refine w_region ?_
    refine o_box rfl rfl rfl (fun b8 => ?_)
    refine o_box rfl rfl rfl (fun b9 => ?_)
    refine o_y (y_assign rfl) rfl rfl ?_
    refine wl_nil ?_
    refine e_seq ?_
    refine w_seq ?_
    refine w_seq ?_
    refine w_region ?_
    refine o_callp rfl ent_38 c_lives20 rfl ?_
    refine wl_as (t := 21) (.bool true) rfl (congrArg Value.bool rfl) ?_
    refine o_y (y_not rfl) rfl rfl ?_
    refine wl_nil ?_
    refine e_seq ?_
    refine w_cond_f rfl ?_
    refine w_skip ?_
    refine e_seq ?_
    refine w_seq ?_
    refine w_seq ?_
    refine w_region ?_
    refine o_y (y_loadrs 1 ty_82 rfl rfl rfl rfl) rfl rfl ?_
    refine o_y (y_move rfl) rfl rfl ?_
    refine o_callq rfl ent_39 rfl (c_light20 _ _ _ _ (by omega)) (fun w hw => (rd_cons (rd_S 0 rfl hw) rd_nil)) ?_
    refine wl_splitb (t := 25) rfl (fun h3_2 => ?_) (fun h3_2 => ?_)
    · skip
      simp only [Bool.and_eq_true, decide_eq_true_eq] at h3_2
      have hn3 := h3_2.2
      refine o_y (y_not rfl) rfl rfl ?_
      refine o_y (y_move rfl) rfl rfl ?_
      refine wl_gyes rfl rfl ?_
      refine o_y (y_field fa_24_1 rfl) rfl rfl ?_
      refine wl_gyes rfl rfl ?_
      refine o_y (y_loadr 0 ty_22 rfl rfl rfl) rfl rfl ?_
      refine wl_gyes rfl rfl ?_
      refine o_callq rfl ent_7 rfl (c_LightEntries _ _ _ _ (by omega)) (fun w hw => (rd_cons (rd_S 1 rfl hw) rd_nil)) ?_
      refine wl_splitb (t := 30) rfl (fun h3_7 => ?_) (fun h3_7 => ?_)
      · skip
        have hle9 := lightEs_le h3_7
        have hok : TbOk l := fun x hx => ⟨hen x hx, hle9.1 x hx⟩
        have hl9 := hle9.2
        have hce : (eachS s n).length ≤ 7 := by
          by_cases h : 0 < (eachS s n).length
          · have h1 := each_ok h
            have h2 := h1.len
            have h3 := (srCk_zero h1.s0).1
            omega
          · omega
        refine wl_gyes rfl rfl ?_
        refine o_y (y_not rfl) rfl rfl ?_
        refine o_y (y_pick_f rfl rfl) rfl rfl ?_
        refine wl_nil ?_
        refine e_seq ?_
        refine w_cond_f rfl ?_
        refine w_skip ?_
        refine e_seq ?_
        refine w_seq ?_
        refine w_region ?_
        refine o_y (y_loadrs 1 ty_82 rfl rfl rfl rfl) rfl rfl ?_
        refine o_y (y_move rfl) rfl rfl ?_
        refine o_callr1 rfl ent_40 rfl (c_search_Names _ _ _ _) (fun w hw => (rd_cons (rd_S 0 rfl hw) rd_nil)) (fun ⟨A9, c9⟩ => ?_)
        refine o_y (y_move rfl) rfl rfl ?_
        refine o_y (y_extract rfl rfl) rfl rfl ?_
        refine o_y (y_extract rfl rfl) rfl rfl ?_
        refine o_y (y_assign rfl) rfl rfl ?_
        refine o_y (y_assign rfl) rfl rfl ?_
        refine wl_nil ?_
        refine e_seq ?_
        refine w_seq ?_
        refine w_region ?_
        refine o_y (y_loadrs 2 ty_82 rfl rfl rfl rfl) rfl rfl ?_
        refine o_y (y_move rfl) rfl rfl ?_
        refine o_callr1 rfl ent_41 rfl (c_ref20_Names _ _ _ _ (by omega)) (fun w hw => (rd_cons (rd_S 0 rfl hw) rd_nil)) (fun ⟨A10, c10⟩ => ?_)
        refine o_y (y_move rfl) rfl rfl ?_
        refine o_y (y_extract rfl rfl) rfl rfl ?_
        refine o_y (y_extract rfl rfl) rfl rfl ?_
        refine o_y (y_assign rfl) rfl rfl ?_
        refine o_y (y_assign rfl) rfl rfl ?_
        refine wl_nil ?_
        refine e_seq ?_
        refine w_seq ?_
        refine w_region ?_
        refine o_y (y_loadrs 3 ty_82 rfl rfl rfl rfl) rfl rfl ?_
        refine o_y (y_move rfl) rfl rfl ?_
        refine o_callr1 rfl ent_42 rfl (c_each20 _ _ _ _) (fun w hw => (rd_cons (rd_S 0 rfl hw) rd_nil)) (fun ⟨A11, c11⟩ => ?_)
        refine o_y (y_move rfl) rfl rfl ?_
        refine o_y (y_extract rfl rfl) rfl rfl ?_
        refine o_y (y_extract rfl rfl) rfl rfl ?_
        refine wl_as (t := 50) (.bool true) rfl (congrArg Value.bool rfl) ?_
        refine o_y (y_assign rfl) rfl rfl ?_
        refine o_y (y_assign rfl) rfl rfl ?_
        refine wl_nil ?_
        refine e_seq ?_
        refine w_seq ?_
        refine w_seq ?_
        refine w_draw 26 rfl mixed ?_
        refine a_take (i := 0) rfl wanted_none (y_move rfl) (fun w h => h) (fun w h => h) rfl (pk_seq (pk_seq pk_fn)) (by kernel_rfl) rfl ?_
        refine a_take (i := 1) rfl wanted_none (y_move rfl) (fun w h => h) (fun w h => h) rfl (pk_seq (pk_seq pk_fn)) (by kernel_rfl) rfl ?_
        refine a_one (i := 2) rfl rfl rfl (tame_call rfl ent_23) (by kernel_rfl) rfl ?_
        refine o_callq rfl ent_23 rfl (c_kit_Same_n _ _ _ _ _ _ (by omega)) (fun w hw => (rd_cons (rd_Ls 2 rfl hw) (rd_cons (rd_Ls 1 rfl hw) rd_nil))) ?_
        refine wl_nil ?_
        refine e_one (fun w h => h) ?_
        refine wa_as (t := 53) (.bool true) rfl (congrArg Value.bool (decide_eq_true rfl)) ?_
        refine a_take (i := 3) rfl wanted_none (y_not rfl) (fun w h => h) (fun w h => h) rfl (pk_seq (pk_seq pk_fn)) (by kernel_rfl) rfl ?_
        refine a_take (i := 4) rfl wanted_none (y_move rfl) (fun w h => h) (fun w h => h) rfl (pk_seq (pk_seq pk_fn)) (by kernel_rfl) rfl ?_
        refine a_take (i := 5) rfl (wanted_yes rfl rfl) (y_move rfl) (fun w h => h) (fun w h => h) rfl (pk_seq (pk_seq pk_fn)) (by kernel_rfl) rfl ?_
        refine a_take (i := 6) rfl (wanted_yes rfl rfl) (y_move rfl) (fun w h => h) (fun w h => h) rfl (pk_seq (pk_seq pk_fn)) (by kernel_rfl) rfl ?_
        refine a_take (i := 7) rfl (wanted_yes rfl rfl) (y_neq rfl rfl) (fun w h => h) (fun w h => h) rfl (pk_seq (pk_seq pk_fn)) (by kernel_rfl) rfl ?_
        refine wa_af (t := 58) rfl (fun h => h rfl) ?_
        refine a_take (i := 8) rfl wanted_none (y_pick_f rfl rfl) (fun w h => h) (fun w h => h) rfl (pk_seq (pk_seq pk_fn)) (by kernel_rfl) rfl ?_
        refine a_take (i := 9) rfl wanted_none (y_move rfl) (fun w h => h) (fun w h => h) rfl (pk_seq (pk_seq pk_fn)) (by kernel_rfl) rfl ?_
        refine a_take (i := 10) rfl (wanted_yes rfl rfl) (y_loadrs 4 ty_82 rfl rfl rfl rfl) (fun w h => h) (fun w h => h) rfl (pk_seq (pk_seq pk_fn)) (by kernel_rfl) rfl ?_
        refine a_take (i := 12) rfl (wanted_yes rfl rfl) (y_loadrs 4 ty_82 rfl rfl rfl rfl) (fun w h => h) (fun w h => h) rfl (pk_seq (pk_seq pk_fn)) (by kernel_rfl) rfl ?_
        refine a_one (i := 11) rfl rfl rfl (tame_call rfl ent_43) (by kernel_rfl) rfl ?_
        refine wl_gyes rfl rfl ?_
        refine o_callq rfl ent_43 rfl (c_search_Check _ _ _) (fun w hw => (rd_cons (rd_S 0 rfl hw) rd_nil)) ?_
        refine wl_nil ?_
        refine e_one (fun w h => h) ?_
        refine a_one (i := 13) rfl rfl rfl (tame_call rfl ent_44) (by kernel_rfl) rfl ?_
        refine wl_gyes rfl rfl ?_
        refine o_callq rfl ent_44 rfl (c_ref20_Check _ _ _) (fun w hw => (rd_cons (rd_S 0 rfl hw) rd_nil)) ?_
        refine wl_nil ?_
        refine e_one (fun w h => h) ?_
        refine a_take (i := 14) rfl (wanted_yes rfl rfl) (y_neq rfl rfl) (fun w h => h) (fun w h => h) rfl (pk_seq (pk_seq pk_fn)) (by kernel_rfl) rfl ?_
        refine wa_af (t := 65) rfl (fun h => h rfl) ?_
        refine a_take (i := 15) rfl wanted_none (y_pick_f rfl rfl) (fun w h => h) (fun w h => h) rfl (pk_seq (pk_seq pk_fn)) (by kernel_rfl) rfl ?_
        refine a_take (i := 16) rfl wanted_none (y_move rfl) (fun w h => h) (fun w h => h) rfl (pk_seq (pk_seq pk_fn)) (by kernel_rfl) rfl ?_
        refine a_take (i := 17) rfl (wanted_yes rfl rfl) (y_move rfl) (fun w h => h) (fun w h => h) rfl (pk_seq (pk_seq pk_fn)) (by kernel_rfl) rfl ?_
        refine a_take (i := 18) rfl (wanted_yes rfl rfl) (y_not rfl) (fun w h => h) (fun w h => h) rfl (pk_seq (pk_seq pk_fn)) (by kernel_rfl) rfl ?_
        refine a_take (i := 19) rfl wanted_none (y_pick_f rfl rfl) (fun w h => h) (fun w h => h) rfl (pk_seq (pk_seq pk_fn)) (by kernel_rfl) rfl ?_
        refine a_take (i := 20) rfl wanted_none (y_move rfl) (fun w h => h) (fun w h => h) rfl (pk_seq (pk_seq pk_fn)) (by kernel_rfl) rfl ?_
        refine a_take (i := 21) rfl (wanted_yes rfl rfl) (y_move rfl) (fun w h => h) (fun w h => h) rfl (pk_seq (pk_seq pk_fn)) (by kernel_rfl) rfl ?_
        refine a_take (i := 22) rfl (wanted_yes rfl rfl) (y_move rfl) (fun w h => h) (fun w h => h) rfl (pk_seq (pk_seq pk_fn)) (by kernel_rfl) rfl ?_
        refine a_one (i := 23) rfl rfl rfl (tame_call rfl ent_23) (by kernel_rfl) rfl ?_
        refine wl_gyes rfl rfl ?_
        refine o_callq rfl ent_23 rfl (c_kit_Same_n _ _ _ _ _ _ (by omega)) (fun w hw => (rd_cons (rd_Ls 0 rfl hw) (rd_cons (rd_Ls 1 rfl hw) rd_nil))) ?_
        refine wl_nil ?_
        refine e_one (fun w h => h) ?_
        refine wa_as (t := 74) (.bool true) rfl (congrArg Value.bool (decide_eq_true rfl)) ?_
        refine a_take (i := 24) rfl (wanted_yes rfl rfl) (y_not rfl) (fun w h => h) (fun w h => h) rfl (pk_seq (pk_seq pk_fn)) (by kernel_rfl) rfl ?_
        refine a_take (i := 25) rfl wanted_none (y_pick_f rfl rfl) (fun w h => h) (fun w h => h) rfl (pk_seq (pk_seq pk_fn)) (by kernel_rfl) rfl ?_
        refine a_done (by kernel_rfl) ?_
        refine e_seq ?_
        refine w_cond_f rfl ?_
        refine w_skip ?_
        refine e_seq ?_
        refine w_seq ?_
        refine w_region ?_
        refine o_y (y_loadrs 3 ty_24 rfl rfl rfl rfl) rfl rfl ?_
        refine o_callq rfl ent_13 rfl (c_ref18_Newbad v l F d hok (by omega) hT _ _ _) (fun w hw => (rd_cons (rd_S 1 rfl hw) (rd_cons (rd_S 2 rfl hw) rd_nil))) ?_
        refine o_y (y_move rfl) rfl rfl ?_
        refine o_y (y_extract rfl rfl) rfl rfl ?_
        refine o_y (y_extract rfl rfl) rfl rfl ?_
        refine o_y (y_assign rfl) rfl rfl ?_
        refine o_y (y_assign rfl) rfl rfl ?_
        refine wl_nil ?_
        refine e_seq ?_
        refine w_seq ?_
        refine w_region ?_
        refine o_y (y_loadrs 3 ty_24 rfl rfl rfl rfl) rfl rfl ?_
        refine o_callq rfl ent_10 rfl (c_index_Newbad v l F d hok (by omega) hT _ _ _) (fun w hw => (rd_cons (rd_S 1 rfl hw) (rd_cons (rd_S 2 rfl hw) rd_nil))) ?_
        refine o_y (y_move rfl) rfl rfl ?_
        refine o_y (y_extract rfl rfl) rfl rfl ?_
        refine o_y (y_extract rfl rfl) rfl rfl ?_
        refine o_y (y_assign rfl) rfl rfl ?_
        refine o_y (y_assign rfl) rfl rfl ?_
        refine wl_nil ?_
        refine e_seq ?_
        refine w_seq ?_
        refine w_seq ?_
        refine w_region ?_
        refine o_y (y_move rfl) rfl rfl ?_
        refine o_y (y_neq rfl rfl) rfl rfl ?_
        refine wl_at (t := 88) rfl hT ?_
        refine wl_nil ?_
        refine e_seq ?_
        refine w_cond_t rfl ?_
        refine w_seq ?_
        refine w_region ?_
        refine o_y (y_move rfl) rfl rfl ?_
        refine o_y (y_move rfl) rfl rfl ?_
        refine o_y (y_eql rfl rfl) rfl rfl ?_
        refine wl_at (t := 91) rfl rfl ?_
        refine o_y (y_assign rfl) rfl rfl ?_
        refine wl_nil ?_
        refine e_seq ?_
        refine w_ret ?_
        refine e_seq_ret ?_
        refine e_ret (ts := [6]) rfl rfl rfl (fun w hw => ?_)
        exact ⟨(), rfl, hw.base, (hw.weak (List.nil_sublist _) (fun s hs => hs)).toNews⟩
      · skip
        refine wl_gyes rfl rfl ?_
        refine o_y (y_not rfl) rfl rfl ?_
        refine o_y (y_pick_f rfl rfl) rfl rfl ?_
        refine wl_nil ?_
        refine e_seq ?_
        refine w_cond_t rfl ?_
        refine w_seq ?_
        refine w_region ?_
        refine o_y (y_assign rfl) rfl rfl ?_
        refine wl_nil ?_
        refine e_seq ?_
        refine w_ret ?_
        refine e_seq_ret ?_
        refine e_ret (ts := [6]) rfl rfl rfl (fun w hw => ?_)
        exact ⟨(), rfl, hw.base, (hw.weak (List.nil_sublist _) (fun s hs => hs)).toNews⟩
    · skip
      refine o_y (y_not rfl) rfl rfl ?_
      refine o_y (y_move rfl) rfl rfl ?_
      refine wl_gno rfl rfl rfl rfl ?_
      refine wl_gno rfl rfl rfl rfl ?_
      refine wl_gno rfl rfl rfl rfl ?_
      refine wl_gno rfl rfl rfl rfl ?_
      refine o_y (y_pick_t rfl rfl) rfl rfl ?_
      refine wl_nil ?_
      refine e_seq ?_
      refine w_cond_t rfl ?_
      refine w_seq ?_
      refine w_region ?_
      refine o_y (y_assign rfl) rfl rfl ?_
      refine wl_nil ?_
      refine e_seq ?_
      refine w_ret ?_
      refine e_seq_ret ?_
      refine e_ret (ts := [6]) rfl rfl rfl (fun w hw => ?_)
      exact ⟨(), rfl, hw.base, (hw.weak (List.nil_sublist _) (fun s hs => hs)).toNews⟩
end Go.Proofs.YtckfjfnkombelaaGreat
