/- the references of labels, names, sums; the kit -/
import Derived.Test.YtckfjfnkombelaaCcQN
namespace Go.Proofs.Ytckfjfnkombelaa
open Go.RowKit Go.Shelf
set_option linter.unusedVariables false
set_option linter.unusedSimpArgs false

theorem ent_17 : Enters Try.prog 17 := enters_of Try.func17 (by kernel_rfl) rfl
theorem ent_21 : Enters Try.prog 21 := enters_of Try.func21 (by kernel_rfl) rfl
theorem ent_61 : Enters Try.prog 61 := enters_of Try.func61 (by kernel_rfl) rfl
theorem ent_62 : Enters Try.prog 62 := enters_of Try.func62 (by kernel_rfl) rfl
theorem ent_97 : Enters Try.prog 97 := enters_of Try.func97 (by kernel_rfl) rfl

theorem c_ref01_Check (l : Str) : Pure Try.prog 97 #[.string (ba l)] (.int .i64 (labCk l)) := by
  intro w0
  refine calls_of_W (ok0 := no) (S := []) (args := [.string (ba l)]) 10 Try.func97 rfl rfl rfl (by simp) (by simp) ?_
  refine w_seq ?_
  refine w_region ?_
  refine o_y (y_assign rfl) rfl rfl ?_
  refine wl_nil ?_
  refine e_seq ?_
  refine w_seq ?_
  refine w_block ?_
  refine w_seq ?_
  refine w_region ?_
  refine o_y (y_move rfl) rfl rfl ?_
  refine o_y (y_eqls rfl rfl) rfl rfl ?_
  refine wl_splitp (t := 5) rfl (fun h1_1 => ?_) (fun h1_1 => ?_)
  · skip
    refine o_y (y_assign rfl) rfl rfl ?_
    refine wl_nil ?_
    refine e_seq ?_
    refine w_cond_t rfl ?_
    refine w_seq ?_
    refine w_region ?_
    refine o_y (y_assign rfl) rfl rfl ?_
    refine wl_nil ?_
    refine e_seq ?_
    refine w_ret ?_
    refine e_blk_ret ?_
    refine e_seq_ret ?_
    refine e_ret (ts := [2]) rfl rfl rfl (fun w hw => ?_)
    subst h1_1
    exact ⟨rfl, hw.base⟩
  · skip
    refine o_y (y_assign rfl) rfl rfl ?_
    refine wl_nil ?_
    refine e_seq ?_
    refine w_cond_f rfl ?_
    refine w_seq ?_
    refine w_region ?_
    refine o_y (y_move rfl) rfl rfl ?_
    refine o_y (y_lens Try.underlying9 rfl) rfl rfl ?_
    refine o_y (y_gtr rfl rfl) rfl rfl ?_
    refine wl_splitp (t := 9) rfl (fun h3_2 => ?_) (fun h3_2 => ?_)
    · skip
      refine o_y (y_assign rfl) rfl rfl ?_
      refine wl_nil ?_
      refine e_seq ?_
      refine w_cond_t rfl ?_
      refine w_seq ?_
      refine w_region ?_
      refine o_y (y_assign rfl) rfl rfl ?_
      refine wl_nil ?_
      refine e_seq ?_
      refine w_ret ?_
      refine e_blk_ret ?_
      refine e_seq_ret ?_
      refine e_ret (ts := [2]) rfl rfl rfl (fun w hw => ?_)
      have := len_pos h1_1
      exact ⟨by unfold labCk; rw [if_neg (by omega)]; first | rw [if_pos (by omega)]; rfl | rw [if_neg (by omega)]; rfl, hw.base⟩
    · skip
      refine o_y (y_assign rfl) rfl rfl ?_
      refine wl_nil ?_
      refine e_seq ?_
      refine w_cond_f rfl ?_
      refine w_skip ?_
      refine e_blk ?_
      refine e_seq ?_
      refine w_seq ?_
      refine w_region ?_
      refine o_y (y_assign rfl) rfl rfl ?_
      refine wl_nil ?_
      refine e_seq ?_
      refine w_ret ?_
      refine e_ret (ts := [2]) rfl rfl rfl (fun w hw => ?_)
      have := len_pos h1_1
      exact ⟨by unfold labCk; rw [if_neg (by omega)]; first | rw [if_pos (by omega)]; rfl | rw [if_neg (by omega)]; rfl, hw.base⟩

theorem lowB_up {c : UInt8} (h1 : 65 ≤ c.toNat) (h2 : c.toNat ≤ 90) : (c.toNat : Int) + 32 = ((lowB c).toNat : Int) := by
  unfold lowB; rw [if_pos ⟨h1, h2⟩]; simp; omega
theorem lowB_no {c : UInt8} (h : ¬ (65 ≤ c.toNat ∧ c.toNat ≤ 90)) : lowB c = c := by unfold lowB; rw [if_neg h]
theorem set_same {α : Type} (l : List α) (d : α) (k : Nat) (h : k < l.length) : l.set k (l.getD k d) = l := by
  rw [List.getD_eq_getElem?_getD, List.getElem?_eq_getElem h, Option.getD_some, List.set_getElem_self]

theorem c_ref01_Fold (l : Str) (hl : l.length ≤ 1000000000000) : Pure Try.prog 61 #[.string (ba l)] (.string (ba (lowS l))) := by
  intro w0
  refine calls_of_W (ok0 := no) (S := []) (args := [.string (ba l)]) 35 Try.func61 rfl rfl rfl (by simp) (by simp) ?_
  refine w_seq ?_
  refine w_region ?_
  refine o_y (y_assign rfl) rfl rfl ?_
  refine wl_nil ?_
  refine e_seq ?_
  refine w_seq ?_
  refine w_region ?_
  refine o_y (y_move rfl) rfl rfl ?_
  refine o_s2b Try.underlying9 Try.underlying148 Try.underlying5 (by omega) rfl rfl (fun As1 cs1 => ?_)
  refine o_y (y_assign rfl) rfl rfl ?_
  refine wl_nil ?_
  refine e_seq ?_
  refine w_seq ?_
  refine w_seq ?_
  refine w_region ?_
  refine o_y (y_assign rfl) rfl rfl ?_
  refine wl_nil ?_
  refine e_seq ?_
  refine w_block ?_
  refine w_loop1 (σ := Nat) [3, 4, 7, 8, 9, 10, 11, 12, 13, 14, 15, 16, 17, 18, 19, 20, 21, 22, 23, 24, 25, 26, 27, 28, 29, 30, 31, 32] (fun k => k ≤ l.length) (fun k => l.length - k) (fun k => [(4, .int .i64 k), (3, .slice As1 ((l.take k).map lowB ++ l.drop k).length cs1)]) (fun k => Ch.ls As1 cs1 5 1 encb ((l.take k).map lowB ++ l.drop k)) (0) ?_ ⟨rfl, rfl, trivial⟩ rfl (fun k hI => ?_)
  · exact Nat.zero_le _
  have hml := map_len lowB l k
  refine w_seq ?_
  refine w_seq ?_
  refine w_region ?_
  refine o_y (y_move rfl) rfl rfl ?_
  refine o_y (y_move rfl) rfl rfl ?_
  refine o_y (y_lenl Try.underlying148 rfl) rfl rfl ?_
  refine o_y (y_lss rfl rfl) rfl rfl ?_
  refine wl_splitp (t := 10) rfl (fun h3_3 => ?_) (fun h3_3 => ?_)
  · skip
    refine wl_nil ?_
    refine e_seq ?_
    refine w_cond_t rfl ?_
    refine w_skip ?_
    refine e_seq ?_
    refine w_seq ?_
    refine w_block ?_
    refine w_seq ?_
    refine w_region ?_
    have hk : k < l.length := by omega
    have hat := map_at lowB l k hk
    have hat2 : ((List.map lowB (List.take k l) ++ List.drop k l).getD k 0).toNat = (l.getD k 0).toNat := by rw [hat]
    refine o_y (y_move rfl) rfl rfl ?_
    refine o_y (y_move rfl) rfl rfl ?_
    refine o_y (y_ixm  Try.underlying148 ty_5 rfl rfl (rs_L 0 rfl) rfl (by rw [map_len]; omega)) rfl rfl ?_
    refine o_y (y_ldm0 enc_b (0 : UInt8) ty_5 rfl (rs_L 0 rfl) (by rw [map_len]; omega) rfl rfl) rfl rfl ?_
    refine o_y (y_geq rfl rfl) rfl rfl ?_
    refine wl_splitp (t := 17) rfl (fun h5_4 => ?_) (fun h5_4 => ?_)
    · skip
      refine o_y (y_move rfl) rfl rfl ?_
      refine wl_gyes rfl rfl ?_
      refine o_y (y_move rfl) rfl rfl ?_
      refine wl_gyes rfl rfl ?_
      refine o_y (y_move rfl) rfl rfl ?_
      refine wl_gyes rfl rfl ?_
      refine o_y (y_ixm  Try.underlying148 ty_5 rfl rfl (rs_L 0 rfl) rfl (by rw [map_len]; omega)) rfl rfl ?_
      refine wl_gyes rfl rfl ?_
      refine o_y (y_ldm0 enc_b (0 : UInt8) ty_5 rfl (rs_L 0 rfl) (by rw [map_len]; omega) rfl rfl) rfl rfl ?_
      refine wl_gyes rfl rfl ?_
      refine o_y (y_leq rfl rfl) rfl rfl ?_
      refine wl_splitp (t := 23) rfl (fun h5_10 => ?_) (fun h5_10 => ?_)
      · skip
        refine o_y (y_pick_t rfl rfl) rfl rfl ?_
        refine wl_nil ?_
        refine e_seq ?_
        refine w_cond_t rfl ?_
        refine w_region ?_
        refine o_y (y_move rfl) rfl rfl ?_
        refine o_y (y_move rfl) rfl rfl ?_
        refine o_y (y_move rfl) rfl rfl ?_
        refine o_y (y_move rfl) rfl rfl ?_
        refine o_y (y_ixm  Try.underlying148 ty_5 rfl rfl (rs_L 0 rfl) rfl (by rw [map_len]; omega)) rfl rfl ?_
        refine o_y (y_ldm0 enc_b (0 : UInt8) ty_5 rfl (rs_L 0 rfl) (by rw [map_len]; omega) rfl rfl) rfl rfl ?_
        refine o_y (y_add rfl rfl) rfl rfl ?_
        refine wl_as (t := 31) (.int .u8 ((lowB (l.getD k 0)).toNat : Int)) rfl (congrArg (Value.int .u8) (by rw [wrap_u8 (by omega) (by omega), hat2]; exact lowB_up (by omega) (by omega))) ?_
        refine o_y (y_ixm  Try.underlying148 ty_5 rfl rfl (rs_L 0 rfl) rfl (by rw [map_len]; omega)) rfl rfl ?_
        refine o_stm0 enc_b (0 : UInt8) _ ty_5 rfl rfl rfl .z rfl (by rw [map_len]; omega) rfl rfl rfl ?_
        refine wl_nil ?_
        refine e_blk ?_
        refine e_seq ?_
        refine w_region ?_
        refine o_y (y_move rfl) rfl rfl ?_
        refine o_y (y_addi rfl rfl (by omega) (by omega)) rfl rfl ?_
        refine o_y (y_assign rfl) rfl rfl ?_
        refine wl_nil ?_
        have hcc := UInt8.toNat_lt (l.getD k 0)
        refine e_back (k + 1) ?_ ?_ ⟨rfl, lk rfl (by rw [map_len, map_len]), trivial⟩ (by repeat (first | exact trivial | refine ⟨rfl, ?_⟩)) (fun w h => by first | (rw [map_step lowB l k hk] at h; exact h) | (rw [← map_step lowB l k hk, lowB_no (by omega), ← map_at lowB l k hk, set_same _ _ _ (by rw [map_len]; exact hk)]; exact h))
        · omega
        · omega
      · skip
        refine o_y (y_pick_t rfl rfl) rfl rfl ?_
        refine wl_nil ?_
        refine e_seq ?_
        refine w_cond_f rfl ?_
        refine w_skip ?_
        refine e_blk ?_
        refine e_seq ?_
        refine w_region ?_
        refine o_y (y_move rfl) rfl rfl ?_
        refine o_y (y_addi rfl rfl (by omega) (by omega)) rfl rfl ?_
        refine o_y (y_assign rfl) rfl rfl ?_
        refine wl_nil ?_
        have hcc := UInt8.toNat_lt (l.getD k 0)
        refine e_back (k + 1) ?_ ?_ ⟨rfl, lk rfl (by rw [map_len, map_len]), trivial⟩ (by repeat (first | exact trivial | refine ⟨rfl, ?_⟩)) (fun w h => by first | (rw [map_step lowB l k hk] at h; exact h) | (rw [← map_step lowB l k hk, lowB_no (by omega), ← map_at lowB l k hk, set_same _ _ _ (by rw [map_len]; exact hk)]; exact h))
        · omega
        · omega
    · skip
      refine o_y (y_move rfl) rfl rfl ?_
      refine wl_gno rfl rfl rfl rfl ?_
      refine wl_gno rfl rfl rfl rfl ?_
      refine wl_gno rfl rfl rfl rfl ?_
      refine wl_gno rfl rfl rfl rfl ?_
      refine wl_gno rfl rfl rfl rfl ?_
      refine o_y (y_pick_f rfl rfl) rfl rfl ?_
      refine wl_nil ?_
      refine e_seq ?_
      refine w_cond_f rfl ?_
      refine w_skip ?_
      refine e_blk ?_
      refine e_seq ?_
      refine w_region ?_
      refine o_y (y_move rfl) rfl rfl ?_
      refine o_y (y_addi rfl rfl (by omega) (by omega)) rfl rfl ?_
      refine o_y (y_assign rfl) rfl rfl ?_
      refine wl_nil ?_
      have hcc := UInt8.toNat_lt (l.getD k 0)
      refine e_back (k + 1) ?_ ?_ ⟨rfl, lk rfl (by rw [map_len, map_len]), trivial⟩ (by repeat (first | exact trivial | refine ⟨rfl, ?_⟩)) (fun w h => by first | (rw [map_step lowB l k hk] at h; exact h) | (rw [← map_step lowB l k hk, lowB_no (by omega), ← map_at lowB l k hk, set_same _ _ _ (by rw [map_len]; exact hk)]; exact h))
      · omega
      · omega
  · skip
    refine wl_nil ?_
    refine e_seq ?_
    refine w_cond_f rfl ?_
    refine w_exit ?_
    refine e_seq_exit ?_
    refine e_loop_exit ?_
    refine e_blk_hit ?_
    refine e_seq ?_
    refine w_seq ?_
    refine w_region ?_
    refine o_y (y_move rfl) rfl rfl ?_
    refine o_y (y_b2s Try.underlying148 Try.underlying9 Try.underlying5 rfl (rs_L 0 rfl)) rfl rfl ?_
    refine o_y (y_assign rfl) rfl rfl ?_
    refine wl_nil ?_
    refine e_seq ?_
    refine w_ret ?_
    refine e_ret (ts := [2]) rfl rfl rfl (fun w hw => ?_)
    obtain rfl : k = l.length := by omega
    exact ⟨by simp [resV, lowS], hw.base⟩

theorem bt_drop (n : Str) (k : Nat) : bt (n.drop k) 0 = bt n k := by
  unfold bt; simp [List.getD_eq_getElem?_getD]
theorem drop_ne {n : Str} {k : Nat} (h : k < n.length) : n.drop k ≠ [] := by
  intro e; have := congrArg List.length e; simp at this; omega
theorem cut_drop_yes {n : Str} {k : Nat} (h : k < n.length) (h1 : 1 ≤ bt n k) (h2 : bt n k ≤ 63) (h3 : k + 1 + bt n k ≤ n.length) : cutOk (n.drop k) = true ∧ rst (n.drop k) = n.drop (k + 1 + bt n k) ∧ lab (n.drop k) = (n.take (k + 1 + bt n k)).drop (k + 1) := by
  refine ⟨cutOk_iff.2 ⟨drop_ne h, by rw [bt_drop]; exact h1, by rw [bt_drop]; exact h2, by rw [bt_drop, List.length_drop]; omega⟩, ?_, ?_⟩
  · rw [rst, bt_drop, List.drop_drop, Nat.add_assoc]
  · rw [lab, bt_drop, List.take_drop, List.drop_drop, Nat.add_assoc]
theorem cut_drop_no {n : Str} {k : Nat} (h : bt n k < 1 ∨ 63 < bt n k ∨ n.length < k + 1 + bt n k) (hk : k < n.length) : cutOk (n.drop k) = false :=
  cut_no (by rw [bt_drop, List.length_drop]; omega)

theorem c_ref02_Check (n : Str) : Pure Try.prog 17 #[.string (ba n)] (.int .i64 (nameCk n)) := by
  intro w0
  refine calls_of_W (ok0 := no) (S := []) (args := [.string (ba n)]) 35 Try.func17 rfl rfl rfl (by simp) (by simp) ?_
  refine w_seq ?_
  refine w_region ?_
  refine o_y (y_assign rfl) rfl rfl ?_
  refine wl_nil ?_
  refine e_seq ?_
  refine w_seq ?_
  refine w_seq ?_
  refine w_region ?_
  refine o_y (y_move rfl) rfl rfl ?_
  refine o_y (y_lens Try.underlying25 rfl) rfl rfl ?_
  refine o_y (y_gtr rfl rfl) rfl rfl ?_
  refine wl_splitp (t := 7) rfl (fun h1_2 => ?_) (fun h1_2 => ?_)
  · skip
    refine wl_nil ?_
    refine e_seq ?_
    refine w_cond_t rfl ?_
    refine w_seq ?_
    refine w_region ?_
    refine o_y (y_assign rfl) rfl rfl ?_
    refine wl_nil ?_
    refine e_seq ?_
    refine w_ret ?_
    refine e_seq_ret ?_
    refine e_ret (ts := [2]) rfl rfl rfl (fun w hw => ?_)
    exact ⟨by simp [resV, nameCk, show 254 < n.length by omega], hw.base⟩
  · skip
    refine wl_nil ?_
    refine e_seq ?_
    refine w_cond_f rfl ?_
    refine w_skip ?_
    refine e_seq ?_
    refine w_seq ?_
    refine w_seq ?_
    refine w_region ?_
    refine o_y (y_assign rfl) rfl rfl ?_
    refine wl_nil ?_
    refine e_seq ?_
    refine w_block ?_
    refine w_loop0 (σ := Nat) [2, 3, 4, 8, 9, 10, 11, 12, 13, 14, 15, 16, 17, 18, 19, 20, 21, 22, 23, 24, 25, 26, 27, 28, 29, 30, 31, 32, 33, 34] (fun k => k ≤ n.length ∧ okN n = okN (n.drop k)) (fun k => n.length - k) (fun k => [(3, .int .i64 k)]) (0) ?_ ⟨rfl, trivial⟩ (fun k hI => ?_)
    · exact ⟨Nat.zero_le _, rfl⟩
    have hb := bt_lt n k
    refine w_seq ?_
    refine w_seq ?_
    refine w_region ?_
    refine o_y (y_move rfl) rfl rfl ?_
    refine o_y (y_move rfl) rfl rfl ?_
    refine o_y (y_lens Try.underlying25 rfl) rfl rfl ?_
    refine o_y (y_lss rfl rfl) rfl rfl ?_
    refine wl_splitp (t := 11) rfl (fun h4_3 => ?_) (fun h4_3 => ?_)
    · skip
      refine wl_nil ?_
      refine e_seq ?_
      refine w_cond_t rfl ?_
      refine w_skip ?_
      refine e_seq ?_
      refine w_block ?_
      refine w_seq ?_
      refine w_region ?_
      refine o_y (y_move rfl) rfl rfl ?_
      refine o_y (y_move rfl) rfl rfl ?_
      refine o_y (y_indexs  Try.underlying25 rfl rfl rfl (by omega)) rfl rfl ?_
      refine o_y (y_convi Try.underlying5 Try.underlying3 rfl (wrap_i64 (by omega) (by omega))) rfl rfl ?_
      refine o_y (y_assign rfl) rfl rfl ?_
      refine wl_nil ?_
      refine e_seq ?_
      refine w_seq ?_
      refine w_seq ?_
      refine w_region ?_
      refine o_y (y_move rfl) rfl rfl ?_
      refine o_y (y_lss rfl rfl) rfl rfl ?_
      refine wl_splitp (t := 17) rfl (fun h6_1 => ?_) (fun h6_1 => ?_)
      · skip
        refine o_y (y_move rfl) rfl rfl ?_
        refine wl_gno rfl rfl rfl rfl ?_
        refine wl_gno rfl rfl rfl rfl ?_
        refine o_y (y_pick_t rfl rfl) rfl rfl ?_
        refine o_y (y_move rfl) rfl rfl ?_
        refine wl_gno rfl rfl rfl rfl ?_
        refine wl_gno rfl rfl rfl rfl ?_
        refine wl_gno rfl rfl rfl rfl ?_
        refine wl_gno rfl rfl rfl rfl ?_
        refine wl_gno rfl rfl rfl rfl ?_
        refine wl_gno rfl rfl rfl rfl ?_
        refine wl_gno rfl rfl rfl rfl ?_
        refine o_y (y_pick_t rfl rfl) rfl rfl ?_
        refine wl_nil ?_
        refine e_seq ?_
        refine w_cond_t rfl ?_
        refine w_seq ?_
        refine w_region ?_
        refine o_y (y_assign rfl) rfl rfl ?_
        refine wl_nil ?_
        refine e_seq ?_
        refine w_ret ?_
        refine e_seq_ret ?_
        refine e_blk_ret ?_
        refine e_loop_ret ?_
        refine e_blk_ret ?_
        refine e_seq_ret ?_
        refine e_ret (ts := [2]) rfl rfl rfl (fun w hw => ?_)
        first
          | (have hc := cut_drop_no (n := n) (k := k) (by omega) (by omega)
             have ho : okN n = false := by rw [hI.2, okN_eq, hc]; simp; omega
             exact ⟨by simp [resV, nameCk, show ¬ 254 < n.length by omega, ho], hw.base⟩)
          | (have ho : okN n = true := by rw [hI.2, List.drop_of_length_le (by omega)]; rfl
             exact ⟨by simp [resV, nameCk, show ¬ 254 < n.length by omega, ho], hw.base⟩)
      · skip
        refine o_y (y_move rfl) rfl rfl ?_
        refine wl_gyes rfl rfl ?_
        refine o_y (y_move rfl) rfl rfl ?_
        refine wl_gyes rfl rfl ?_
        refine o_y (y_gtr rfl rfl) rfl rfl ?_
        refine wl_splitp (t := 20) rfl (fun h6_4 => ?_) (fun h6_4 => ?_)
        · skip
          refine o_y (y_pick_f rfl rfl) rfl rfl ?_
          refine o_y (y_move rfl) rfl rfl ?_
          refine wl_gno rfl rfl rfl rfl ?_
          refine wl_gno rfl rfl rfl rfl ?_
          refine wl_gno rfl rfl rfl rfl ?_
          refine wl_gno rfl rfl rfl rfl ?_
          refine wl_gno rfl rfl rfl rfl ?_
          refine wl_gno rfl rfl rfl rfl ?_
          refine wl_gno rfl rfl rfl rfl ?_
          refine o_y (y_pick_t rfl rfl) rfl rfl ?_
          refine wl_nil ?_
          refine e_seq ?_
          refine w_cond_t rfl ?_
          refine w_seq ?_
          refine w_region ?_
          refine o_y (y_assign rfl) rfl rfl ?_
          refine wl_nil ?_
          refine e_seq ?_
          refine w_ret ?_
          refine e_seq_ret ?_
          refine e_blk_ret ?_
          refine e_loop_ret ?_
          refine e_blk_ret ?_
          refine e_seq_ret ?_
          refine e_ret (ts := [2]) rfl rfl rfl (fun w hw => ?_)
          first
            | (have hc := cut_drop_no (n := n) (k := k) (by omega) (by omega)
               have ho : okN n = false := by rw [hI.2, okN_eq, hc]; simp; omega
               exact ⟨by simp [resV, nameCk, show ¬ 254 < n.length by omega, ho], hw.base⟩)
            | (have ho : okN n = true := by rw [hI.2, List.drop_of_length_le (by omega)]; rfl
               exact ⟨by simp [resV, nameCk, show ¬ 254 < n.length by omega, ho], hw.base⟩)
        · skip
          refine o_y (y_pick_f rfl rfl) rfl rfl ?_
          refine o_y (y_move rfl) rfl rfl ?_
          refine wl_gyes rfl rfl ?_
          refine o_y (y_move rfl) rfl rfl ?_
          refine wl_gyes rfl rfl ?_
          refine o_y (y_addi rfl rfl (by omega) (by omega)) rfl rfl ?_
          refine wl_gyes rfl rfl ?_
          refine o_y (y_move rfl) rfl rfl ?_
          refine wl_gyes rfl rfl ?_
          refine o_y (y_addi rfl rfl (by omega) (by omega)) rfl rfl ?_
          refine wl_gyes rfl rfl ?_
          refine o_y (y_move rfl) rfl rfl ?_
          refine wl_gyes rfl rfl ?_
          refine o_y (y_lens Try.underlying25 rfl) rfl rfl ?_
          refine wl_gyes rfl rfl ?_
          refine o_y (y_gtr rfl rfl) rfl rfl ?_
          refine wl_splitp (t := 29) rfl (fun h6_13 => ?_) (fun h6_13 => ?_)
          · skip
            refine o_y (y_pick_f rfl rfl) rfl rfl ?_
            refine wl_nil ?_
            refine e_seq ?_
            refine w_cond_t rfl ?_
            refine w_seq ?_
            refine w_region ?_
            refine o_y (y_assign rfl) rfl rfl ?_
            refine wl_nil ?_
            refine e_seq ?_
            refine w_ret ?_
            refine e_seq_ret ?_
            refine e_blk_ret ?_
            refine e_loop_ret ?_
            refine e_blk_ret ?_
            refine e_seq_ret ?_
            refine e_ret (ts := [2]) rfl rfl rfl (fun w hw => ?_)
            first
              | (have hc := cut_drop_no (n := n) (k := k) (by omega) (by omega)
                 have ho : okN n = false := by rw [hI.2, okN_eq, hc]; simp; omega
                 exact ⟨by simp [resV, nameCk, show ¬ 254 < n.length by omega, ho], hw.base⟩)
              | (have ho : okN n = true := by rw [hI.2, List.drop_of_length_le (by omega)]; rfl
                 exact ⟨by simp [resV, nameCk, show ¬ 254 < n.length by omega, ho], hw.base⟩)
          · skip
            refine o_y (y_pick_f rfl rfl) rfl rfl ?_
            refine wl_nil ?_
            refine e_seq ?_
            refine w_cond_f rfl ?_
            refine w_skip ?_
            refine e_seq ?_
            refine w_region ?_
            refine o_y (y_move rfl) rfl rfl ?_
            refine o_y (y_addi rfl rfl (by omega) (by omega)) rfl rfl ?_
            refine o_y (y_move rfl) rfl rfl ?_
            refine o_y (y_addi rfl rfl (by omega) (by omega)) rfl rfl ?_
            refine o_y (y_assign rfl) rfl rfl ?_
            refine wl_nil ?_
            refine e_blk ?_
            obtain ⟨hc1, hc2, hc3⟩ := cut_drop_yes (n := n) (k := k) (by omega) (by omega) (by omega) (by omega)
            refine e_back (k + 1 + bt n k) ?_ ?_ ⟨rfl, trivial⟩ (by repeat (first | exact trivial | refine ⟨rfl, ?_⟩)) (fun w h => h)
            · exact ⟨by omega, by rw [hI.2, okN_eq (n.drop k), hc1, hc2]; simp; omega⟩
            · omega
    · skip
      refine wl_nil ?_
      refine e_seq ?_
      refine w_cond_f rfl ?_
      refine w_exit ?_
      refine e_seq_exit ?_
      refine e_loop_exit ?_
      refine e_blk_hit ?_
      refine e_seq ?_
      refine w_seq ?_
      refine w_region ?_
      refine o_y (y_assign rfl) rfl rfl ?_
      refine wl_nil ?_
      refine e_seq ?_
      refine w_ret ?_
      refine e_ret (ts := [2]) rfl rfl rfl (fun w hw => ?_)
      first
        | (have hc := cut_drop_no (n := n) (k := k) (by omega) (by omega)
           have ho : okN n = false := by rw [hI.2, okN_eq, hc]; simp; omega
           exact ⟨by simp [resV, nameCk, show ¬ 254 < n.length by omega, ho], hw.base⟩)
        | (have ho : okN n = true := by rw [hI.2, List.drop_of_length_le (by omega)]; rfl
           exact ⟨by simp [resV, nameCk, show ¬ 254 < n.length by omega, ho], hw.base⟩)

theorem c_ref02_Labels (n : Str) : RC Try.prog 21 #[.string (ba n)] [] (α := Option Addr × Nat) (fun p => .slice p.1 (labsN n).length p.2) (fun p => [Ch.ls p.1 p.2 9 1 encs (labsN n)]) := by
  refine rc_of_W (args := [.string (ba n)]) 33 Try.func21 rfl rfl rfl (fun w0 => ?_)
  refine w_seq ?_
  refine w_region ?_
  refine o_y (y_assign rfl) rfl rfl ?_
  refine wl_nil ?_
  refine e_seq ?_
  refine w_seq ?_
  refine w_seq ?_
  refine w_region ?_
  refine o_y (y_move rfl) rfl rfl ?_
  refine o_callp rfl ent_17 (c_ref02_Check _) rfl ?_
  refine o_y (y_neq rfl rfl) rfl rfl ?_
  refine wl_splitp (t := 8) rfl (fun h1_2 => ?_) (fun h1_2 => ?_)
  · skip
    refine wl_nil ?_
    refine e_seq ?_
    refine w_cond_t rfl ?_
    refine w_seq ?_
    refine w_region ?_
    refine o_y (y_assign rfl) rfl rfl ?_
    refine wl_nil ?_
    refine e_seq ?_
    refine w_ret ?_
    refine e_seq_ret ?_
    refine e_ret (ts := [2]) rfl rfl rfl (fun w hw => ?_)
    have hl : labsN n = [] := if_neg (by omega)
    rw [hl]
    exact ⟨(none, 0), rfl, hw.base, (hw.nilsl 9 1).toNews⟩
  · skip
    refine wl_nil ?_
    refine e_seq ?_
    refine w_cond_f rfl ?_
    refine w_skip ?_
    refine e_seq ?_
    refine w_seq ?_
    have hck : nameCk n = 0 := by omega
    have hnl := nameCk_zero.1 hck
    refine w_region ?_
    refine o_y (y_assign rfl) rfl rfl ?_
    refine wl_nil ?_
    refine e_seq ?_
    refine w_seq ?_
    refine w_seq ?_
    refine w_region ?_
    refine o_y (y_assign rfl) rfl rfl ?_
    refine wl_nil ?_
    refine e_seq ?_
    refine w_block ?_
    refine w_heap (fun w h => h.nilsl 9 1) ?_
    refine w_loop1 (σ := Nat × List Str × Option Addr × Nat) [3, 4, 5, 9, 10, 11, 12, 13, 14, 15, 16, 17, 18, 19, 20, 21, 22, 23, 24, 25, 26, 27, 28, 29, 30, 31] (fun q => q.1 ≤ n.length ∧ labs n = q.2.1 ++ labs (n.drop q.1) ∧ okN (n.drop q.1) = true ∧ q.2.1.length ≤ q.1) (fun q => n.length - q.1) (fun q => [(4, .int .i64 q.1), (3, .slice q.2.2.1 q.2.1.length q.2.2.2)]) (fun q => Ch.ls q.2.2.1 q.2.2.2 9 1 encs q.2.1) ((0, [], none, 0)) ?_ ⟨rfl, rfl, trivial⟩ rfl (fun q hI => ?_)
    · exact ⟨Nat.zero_le _, rfl, hnl.2, Nat.le_refl _⟩
    obtain ⟨k, pre, A, c⟩ := q
    obtain ⟨hk, hI, hok, hpl⟩ := hI
    dsimp only at hk hI hok hpl ⊢
    have hb := bt_lt n k
    refine w_seq ?_
    refine w_seq ?_
    refine w_region ?_
    refine o_y (y_move rfl) rfl rfl ?_
    refine o_y (y_move rfl) rfl rfl ?_
    refine o_y (y_lens Try.underlying25 rfl) rfl rfl ?_
    refine o_y (y_lss rfl rfl) rfl rfl ?_
    refine wl_splitp (t := 12) rfl (fun h5_3 => ?_) (fun h5_3 => ?_)
    · skip
      have hkl : k < n.length := by omega
      rw [okN_eq] at hok
      have hcu : cutOk (n.drop k) = true ∧ okN (rst (n.drop k)) = true := by
        have := drop_ne hkl
        simpa [this] using hok
      have hcc := cutOk_iff.1 hcu.1
      rw [bt_drop, List.length_drop] at hcc
      obtain ⟨hc1, hc2, hc3⟩ := cut_drop_yes (n := n) (k := k) hkl (by omega) (by omega) (by omega)
      have ho2 := hcu.2
      refine wl_nil ?_
      refine e_seq ?_
      refine w_cond_t rfl ?_
      refine w_skip ?_
      refine e_seq ?_
      refine w_block ?_
      refine w_seq ?_
      refine w_region ?_
      refine o_y (y_move rfl) rfl rfl ?_
      refine o_y (y_move rfl) rfl rfl ?_
      refine o_y (y_indexs  Try.underlying25 rfl rfl rfl (by omega)) rfl rfl ?_
      refine o_y (y_convi Try.underlying5 Try.underlying3 rfl (wrap_i64 (by omega) (by omega))) rfl rfl ?_
      refine o_y (y_assign rfl) rfl rfl ?_
      refine wl_nil ?_
      refine e_seq ?_
      refine w_seq ?_
      refine w_region ?_
      refine o_y (y_move rfl) rfl rfl ?_
      refine o_y (y_move rfl) rfl rfl ?_
      refine o_y (y_move rfl) rfl rfl ?_
      refine o_y (y_addi rfl rfl (by omega) (by omega)) rfl rfl ?_
      refine o_y (y_move rfl) rfl rfl ?_
      refine o_y (y_addi rfl rfl (by omega) (by omega)) rfl rfl ?_
      refine o_y (y_move rfl) rfl rfl ?_
      refine o_y (y_addi rfl rfl (by omega) (by omega)) rfl rfl ?_
      refine o_y (y_slices (m := k + 1) (n := k + 1 + bt n k) Try.underlying25 rfl rfl rfl (by omega) (by omega) (by omega) (by omega)) rfl rfl ?_
      refine o_bsl (vs := [_]) ([_] : List (Str)) enc_s Try.underlying36 ty_9 rfl rfl rfl rfl rfl rfl (fun As1 => ?_)
      refine o_appm (enc := encs) (sz := 1) _ Try.underlying36 ty_9 rfl rfl rfl (fun A c => (.s (.z))) (src_L 0 Try.underlying36 rfl) (by simp only [List.length_cons, List.length_nil, Nat.zero_add]; omega) (by simp only [List.length_cons, List.length_nil, Nat.zero_add]; omega) rfl (fun A1 c1 => ?_)
      refine o_y (y_assign rfl) rfl rfl ?_
      refine wl_nil ?_
      refine e_seq ?_
      refine w_region ?_
      refine o_y (y_move rfl) rfl rfl ?_
      refine o_y (y_addi rfl rfl (by omega) (by omega)) rfl rfl ?_
      refine o_y (y_move rfl) rfl rfl ?_
      refine o_y (y_addi rfl rfl (by omega) (by omega)) rfl rfl ?_
      refine o_y (y_assign rfl) rfl rfl ?_
      refine wl_nil ?_
      refine e_blk ?_
      refine e_back ((k + 1 + bt n k, pre ++ [(n.take (k + 1 + bt n k)).drop (k + 1)], A1, c1)) ?_ ?_ ⟨rfl, rfl, trivial⟩ (by repeat (first | exact trivial | refine ⟨rfl, ?_⟩)) (fun w h => h.weak (.cons _ (List.Sublist.refl _)) (fun s hs => hs))
      · refine ⟨?_, ?_, ?_, ?_⟩
        · show k + 1 + bt n k ≤ _; omega
        · show labs n = (pre ++ [_]) ++ labs (n.drop (k + 1 + bt n k)); rw [hI, labs_eq (n.drop k), if_pos hc1, hc2, hc3]; simp
        · show okN (n.drop (k + 1 + bt n k)) = true; rw [← hc2]; exact ho2
        · show (pre ++ [_]).length ≤ k + 1 + bt n k; simp; omega
      · show n.length - (k + 1 + bt n k) < n.length - k
        omega
    · skip
      refine wl_nil ?_
      refine e_seq ?_
      refine w_cond_f rfl ?_
      refine w_exit ?_
      refine e_seq_exit ?_
      refine e_loop_exit ?_
      refine e_blk_hit ?_
      refine e_seq ?_
      refine w_seq ?_
      refine w_region ?_
      refine o_y (y_move rfl) rfl rfl ?_
      refine o_y (y_assign rfl) rfl rfl ?_
      refine wl_nil ?_
      refine e_seq ?_
      refine w_ret ?_
      refine e_ret (ts := [2]) rfl rfl rfl (fun w hw => ?_)
      have hl : labsN n = pre := by rw [labsN, if_pos hck, hI, List.drop_of_length_le (by omega)]; simp [labs, labsF]
      rw [hl]
      exact ⟨(A, c), rfl, hw.base, hw.toNews⟩

theorem make_long {ls : List Str} {k : Nat} (h0 : firstCk ls = 0) (h : 254 < (encn (ls.take k)).length) : makeN ls = ([], 3) := by
  have := encn_take_le ls k
  rw [makeN, if_neg (by omega), if_pos (by omega)]
theorem make_done {ls : List Str} (h0 : firstCk ls = 0) (h : (encn ls).length ≤ 254) : makeN ls = (encn ls, 0) := by
  rw [makeN, if_neg (by omega), if_neg (by omega)]

set_option maxRecDepth 100000 in
theorem c_ref02_Make (ls : List Str) (A : Option Addr) (ca : Nat) (hl : ls.length ≤ 1000000000000) : RC Try.prog 62 #[.slice A ls.length ca] [Ch.rd A 1 encs ls] (α := Unit) (fun _ => .tuple #[.string (ba (makeN ls).1), .int .i64 (makeN ls).2]) (fun _ => []) := by
  refine rc_of_W (args := [.slice A ls.length ca]) 47 Try.func62 rfl rfl rfl (fun w0 => ?_)
  refine w_seq ?_
  refine w_region ?_
  refine o_y (y_assign rfl) rfl rfl ?_
  refine o_y (y_assign rfl) rfl rfl ?_
  refine wl_nil ?_
  refine e_seq ?_
  refine w_seq ?_
  refine w_region ?_
  refine o_y (y_assign rfl) rfl rfl ?_
  refine wl_nil ?_
  refine e_seq ?_
  refine w_seq ?_
  refine w_seq ?_
  refine w_region ?_
  refine o_y (y_assign rfl) rfl rfl ?_
  refine wl_nil ?_
  refine e_seq ?_
  refine w_block ?_
  refine w_loop0 (σ := Nat) [2, 3, 5, 6, 8, 9, 10, 11, 12, 13, 14, 15, 16, 17, 18, 19, 20, 21] (fun k => k ≤ ls.length ∧ firstCk ls = firstCk (ls.drop k)) (fun k => ls.length - k) (fun k => [(5, .int .i64 k)]) (0) ?_ ⟨rfl, trivial⟩ (fun k hI => ?_)
  · exact ⟨Nat.zero_le _, rfl⟩
  refine w_seq ?_
  refine w_seq ?_
  refine w_region ?_
  refine o_y (y_move rfl) rfl rfl ?_
  refine o_y (y_move rfl) rfl rfl ?_
  refine o_y (y_lenl Try.underlying36 rfl) rfl rfl ?_
  refine o_y (y_lss rfl rfl) rfl rfl ?_
  refine wl_splitp (t := 11) rfl (fun h3_3 => ?_) (fun h3_3 => ?_)
  · skip
    refine wl_nil ?_
    refine e_seq ?_
    refine w_cond_t rfl ?_
    refine w_skip ?_
    refine e_seq ?_
    refine w_seq ?_
    refine w_block ?_
    refine w_seq ?_
    refine w_region ?_
    refine o_y (y_move rfl) rfl rfl ?_
    refine o_y (y_move rfl) rfl rfl ?_
    refine o_y (y_ixm  Try.underlying36 ty_9 rfl rfl (rs_S 0 rfl) rfl (by omega)) rfl rfl ?_
    refine o_y (y_ldm0 enc_s ([] : Str) ty_9 rfl (rs_S 0 rfl) (by omega) rfl rfl) rfl rfl ?_
    refine o_callp rfl ent_97 (c_ref01_Check _) rfl ?_
    refine o_y (y_assign rfl) rfl rfl ?_
    refine wl_nil ?_
    refine e_seq ?_
    refine w_seq ?_
    refine w_region ?_
    refine o_y (y_move rfl) rfl rfl ?_
    refine o_y (y_neq rfl rfl) rfl rfl ?_
    refine wl_splitp (t := 20) rfl (fun h6_1 => ?_) (fun h6_1 => ?_)
    · skip
      refine wl_nil ?_
      refine e_seq ?_
      refine w_cond_t rfl ?_
      refine w_seq ?_
      refine w_region ?_
      refine o_y (y_move rfl) rfl rfl ?_
      refine o_y (y_assign rfl) rfl rfl ?_
      refine o_y (y_assign rfl) rfl rfl ?_
      refine wl_nil ?_
      refine e_seq ?_
      refine w_ret ?_
      refine e_blk_ret ?_
      refine e_seq_ret ?_
      refine e_loop_ret ?_
      refine e_blk_ret ?_
      refine e_seq_ret ?_
      refine e_ret (ts := [2, 3]) rfl rfl rfl (fun w hw => ?_)
      have hk : k < ls.length := by omega
      have hdk := drop_getD ls [] k hk
      have hf : firstCk ls = labCk (ls.getD k []) := by rw [hI.2, hdk, firstCk, if_neg (by omega)]
      exact ⟨(), by rw [makeN, if_pos (by omega), hf]; rfl, hw.base, hw.toNews⟩
    · skip
      refine wl_nil ?_
      refine e_seq ?_
      refine w_cond_f rfl ?_
      refine w_skip ?_
      refine e_blk ?_
      refine e_seq ?_
      refine w_region ?_
      refine o_y (y_move rfl) rfl rfl ?_
      refine o_y (y_addi rfl rfl (by omega) (by omega)) rfl rfl ?_
      refine o_y (y_assign rfl) rfl rfl ?_
      refine wl_nil ?_
      have hk : k < ls.length := by omega
      have hdk := drop_getD ls [] k hk
      refine e_back (k + 1) ?_ ?_ ⟨rfl, trivial⟩ (by repeat (first | exact trivial | refine ⟨rfl, ?_⟩)) (fun w h => h)
      · exact ⟨by omega, by rw [hI.2, hdk, firstCk, if_pos (by omega)]⟩
      · omega
  · skip
    refine wl_nil ?_
    refine e_seq ?_
    refine w_cond_f rfl ?_
    refine w_exit ?_
    refine e_seq_exit ?_
    refine e_loop_exit ?_
    refine e_blk_hit ?_
    refine e_seq ?_
    refine w_seq ?_
    refine w_seq ?_
    have hz : firstCk ls = 0 := by rw [hI.2, List.drop_of_length_le (by omega)]; rfl
    refine w_region ?_
    refine o_y (y_assign rfl) rfl rfl ?_
    refine wl_nil ?_
    refine e_seq ?_
    refine w_block ?_
    refine w_loop0 (σ := Nat) [2, 3, 4, 7, 22, 23, 24, 25, 26, 27, 28, 29, 30, 31, 32, 33, 34, 35, 36, 37, 38, 39, 40, 41, 42, 43, 44, 45] (fun k => k ≤ ls.length ∧ (encn (ls.take k)).length ≤ 254) (fun k => ls.length - k) (fun k => [(7, .int .i64 k), (4, .string (ba (encn (ls.take k))))]) (0) ?_ ⟨rfl, rfl, trivial⟩ (fun k hI => ?_)
    · exact ⟨Nat.zero_le _, by simp [encn]⟩
    refine w_seq ?_
    refine w_seq ?_
    refine w_region ?_
    refine o_y (y_move rfl) rfl rfl ?_
    refine o_y (y_move rfl) rfl rfl ?_
    refine o_y (y_lenl Try.underlying36 rfl) rfl rfl ?_
    refine o_y (y_lss rfl rfl) rfl rfl ?_
    refine wl_splitp (t := 25) rfl (fun h9_3 => ?_) (fun h9_3 => ?_)
    · skip
      have hk : k < ls.length := by omega
      have hlk : 1 ≤ (ls.getD k []).length ∧ (ls.getD k []).length ≤ 63 := firstCk_zero.1 hz (ls.getD k []) (by rw [List.getD_eq_getElem?_getD, List.getElem?_eq_getElem hk]; exact List.getElem_mem hk)
      have htk := take_getD ls [] k hk
      have htk2 : encn (ls.take (k + 1)) = encn (ls.take k) ++ ([UInt8.ofNat (ls.getD k []).length] ++ ls.getD k []) := by rw [htk, encn_append, encn_one]; rfl
      refine wl_nil ?_
      refine e_seq ?_
      refine w_cond_t rfl ?_
      refine w_skip ?_
      refine e_seq ?_
      refine w_seq ?_
      refine w_block ?_
      refine w_seq ?_
      refine w_draw 16 rfl mixed ?_
      refine a_take (i := 0) rfl wanted_none (y_move rfl) (fun w h => h) (fun w h => h) rfl (pk_seq (pk_blk (pk_seq (pk_loop (pk_blk (pk_seq pk_fn)))))) (by kernel_rfl) rfl ?_
      refine a_take (i := 1) rfl wanted_none (y_move rfl) (fun w h => h) (fun w h => h) rfl (pk_seq (pk_blk (pk_seq (pk_loop (pk_blk (pk_seq pk_fn)))))) (by kernel_rfl) rfl ?_
      refine a_take (i := 2) rfl wanted_none (y_move rfl) (fun w h => h) (fun w h => h) rfl (pk_seq (pk_blk (pk_seq (pk_loop (pk_blk (pk_seq pk_fn)))))) (by kernel_rfl) rfl ?_
      refine a_take (i := 3) rfl wanted_none (y_ixm  Try.underlying36 ty_9 rfl rfl (rs_S 0 rfl) rfl (by omega)) (fun w h => h) (fun w h => h) rfl (pk_seq (pk_blk (pk_seq (pk_loop (pk_blk (pk_seq pk_fn)))))) (by kernel_rfl) rfl ?_
      refine a_take (i := 4) rfl wanted_none (y_ldm0 enc_s ([] : Str) ty_9 rfl (rs_S 0 rfl) (by omega) rfl rfl) (fun w h => h) (fun w h => h) rfl (pk_seq (pk_blk (pk_seq (pk_loop (pk_blk (pk_seq pk_fn)))))) (by kernel_rfl) rfl ?_
      refine a_take (i := 5) rfl wanted_none (y_lens Try.underlying9 rfl) (fun w h => h) (fun w h => h) rfl (pk_seq (pk_blk (pk_seq (pk_loop (pk_blk (pk_seq pk_fn)))))) (by kernel_rfl) rfl ?_
      refine a_take (i := 6) rfl wanted_none (y_convii Try.underlying3 Try.underlying5 rfl) (fun w h => h) (fun w h => h) rfl (pk_seq (pk_blk (pk_seq (pk_loop (pk_blk (pk_seq pk_fn)))))) (by kernel_rfl) rfl ?_
      refine wa_as (t := 34) (.int .u8 ((UInt8.ofNat (ls.getD k []).length).toNat : Int)) rfl (congrArg _ (by rw [wrap_u8 (by omega) (by omega), u8len hlk.2])) ?_
      refine a_take (i := 10) rfl wanted_none (y_move rfl) (fun w h => h) (fun w h => h) rfl (pk_seq (pk_blk (pk_seq (pk_loop (pk_blk (pk_seq pk_fn)))))) (by kernel_rfl) rfl ?_
      refine a_take (i := 11) rfl wanted_none (y_move rfl) (fun w h => h) (fun w h => h) rfl (pk_seq (pk_blk (pk_seq (pk_loop (pk_blk (pk_seq pk_fn)))))) (by kernel_rfl) rfl ?_
      refine a_take (i := 12) rfl wanted_none (y_ixm  Try.underlying36 ty_9 rfl rfl (rs_S 0 rfl) rfl (by omega)) (fun w h => h) (fun w h => h) rfl (pk_seq (pk_blk (pk_seq (pk_loop (pk_blk (pk_seq pk_fn)))))) (by kernel_rfl) rfl ?_
      refine a_take (i := 13) rfl wanted_none (y_ldm0 enc_s ([] : Str) ty_9 rfl (rs_S 0 rfl) (by omega) rfl rfl) (fun w h => h) (fun w h => h) rfl (pk_seq (pk_blk (pk_seq (pk_loop (pk_blk (pk_seq pk_fn)))))) (by kernel_rfl) rfl ?_
      refine a_one (i := 7) rfl rfl rfl (fun _ _ _ => tame_op (by kernel_rfl)) (by kernel_rfl) rfl ?_
      refine o_bsl (vs := [_]) ([_] : List (UInt8)) enc_b Try.underlying148 ty_5 rfl rfl rfl rfl rfl rfl (fun As1 => ?_)
      refine wl_nil ?_
      refine e_one (fun w h => h.weak (.cons _ (List.Sublist.refl _)) (fun s hs => hs)) ?_
      refine a_one (i := 8) rfl rfl rfl (fun _ _ _ => tame_op (by kernel_rfl)) (by kernel_rfl) rfl ?_
      refine o_y (y_b2s Try.underlying148 Try.underlying9 Try.underlying5 rfl (rs_L 0 rfl)) rfl rfl ?_
      refine wl_nil ?_
      refine e_one (fun w h => h.weak (.cons _ (List.Sublist.refl _)) (fun s hs => hs)) ?_
      refine a_take (i := 9) rfl wanted_none (y_adds rfl rfl (by first | omega | (simp only [List.length_nil, List.length_cons, List.length_take, List.length_drop, List.length_append]; omega))) (fun w h => h.weak (.cons _ (List.Sublist.refl _)) (fun s hs => hs)) (fun w h => h) rfl (pk_seq (pk_blk (pk_seq (pk_loop (pk_blk (pk_seq pk_fn)))))) (by kernel_rfl) rfl ?_
      refine a_take (i := 14) rfl wanted_none (y_adds rfl rfl (by first | omega | (simp only [List.length_nil, List.length_cons, List.length_take, List.length_drop, List.length_append]; omega))) (fun w h => h.weak (.cons _ (List.Sublist.refl _)) (fun s hs => hs)) (fun w h => h) rfl (pk_seq (pk_blk (pk_seq (pk_loop (pk_blk (pk_seq pk_fn)))))) (by kernel_rfl) rfl ?_
      refine a_take (i := 15) rfl wanted_none (y_assign rfl) (fun w h => h.weak (.cons _ (List.Sublist.refl _)) (fun s hs => hs)) (fun w h => h) rfl (pk_seq (pk_blk (pk_seq (pk_loop (pk_blk (pk_seq pk_fn)))))) (by kernel_rfl) rfl ?_
      refine a_done (by kernel_rfl) ?_
      refine e_seq ?_
      refine w_seq ?_
      refine w_region ?_
      refine o_y (y_move rfl) rfl rfl ?_
      refine o_y (y_lens Try.underlying9 rfl) rfl rfl ?_
      refine o_y (y_gtr rfl rfl) rfl rfl ?_
      refine wl_splitp (t := 45) rfl (fun h12_2 => ?_) (fun h12_2 => ?_)
      · skip
        refine wl_nil ?_
        refine e_seq ?_
        refine w_cond_t rfl ?_
        refine w_seq ?_
        refine w_region ?_
        refine o_y (y_assign rfl) rfl rfl ?_
        refine o_y (y_assign rfl) rfl rfl ?_
        refine wl_nil ?_
        refine e_seq ?_
        refine w_ret ?_
        refine e_blk_ret ?_
        refine e_seq_ret ?_
        refine e_loop_ret ?_
        refine e_blk_ret ?_
        refine e_seq_ret ?_
        refine e_ret (ts := [2, 3]) rfl rfl rfl (fun w hw => ?_)
        first
          | (have hlong : 254 < (encn (ls.take (k + 1))).length := by rw [htk2, ← List.append_assoc]; omega
             exact ⟨(), by rw [make_long hz hlong]; rfl, hw.base, (hw.weak (List.nil_sublist _) (fun s hs => hs)).toNews⟩)
          | (have hk : k = ls.length := by omega
             rw [hk, List.take_length] at hI ⊢
             exact ⟨(), by rw [make_done hz hI.2]; rfl, hw.base, (hw.weak (List.nil_sublist _) (fun s hs => hs)).toNews⟩)
          | (trace_state; fail)
      · skip
        refine wl_nil ?_
        refine e_seq ?_
        refine w_cond_f rfl ?_
        refine w_skip ?_
        refine e_blk ?_
        refine e_seq ?_
        refine w_region ?_
        refine o_y (y_move rfl) rfl rfl ?_
        refine o_y (y_addi rfl rfl (by omega) (by omega)) rfl rfl ?_
        refine o_y (y_assign rfl) rfl rfl ?_
        refine wl_nil ?_
        refine e_back (k + 1) ?_ ?_ ⟨rfl, lk rfl (by rw [htk2, List.append_assoc]), trivial⟩ (by repeat (first | exact trivial | refine ⟨rfl, ?_⟩)) (fun w h => h.weak (.cons _ (List.Sublist.refl _)) (fun s hs => hs))
        · exact ⟨by omega, by rw [htk2, ← List.append_assoc]; omega⟩
        · omega
    · skip
      refine wl_nil ?_
      refine e_seq ?_
      refine w_cond_f rfl ?_
      refine w_exit ?_
      refine e_seq_exit ?_
      refine e_loop_exit ?_
      refine e_blk_hit ?_
      refine e_seq ?_
      refine w_seq ?_
      refine w_region ?_
      refine o_y (y_move rfl) rfl rfl ?_
      refine o_y (y_assign rfl) rfl rfl ?_
      refine o_y (y_assign rfl) rfl rfl ?_
      refine wl_nil ?_
      refine e_seq ?_
      refine w_ret ?_
      refine e_ret (ts := [2, 3]) rfl rfl rfl (fun w hw => ?_)
      first
        | (have hlong : 254 < (encn (ls.take (k + 1))).length := by rw [htk2, ← List.append_assoc]; omega
           exact ⟨(), by rw [make_long hz hlong]; rfl, hw.base, (hw.weak (List.nil_sublist _) (fun s hs => hs)).toNews⟩)
        | (have hk : k = ls.length := by omega
           rw [hk, List.take_length] at hI ⊢
           exact ⟨(), by rw [make_done hz hI.2]; rfl, hw.base, (hw.weak (List.nil_sublist _) (fun s hs => hs)).toNews⟩)
        | (trace_state; fail)

theorem c_ref02_Fold (n : Str) (hn : n.length ≤ 1000000000) : RC Try.prog 22 #[.string (ba n)] [] (α := Unit) (fun _ => .string (ba (foldN n))) (fun _ => []) := by
  refine rc_of_W (args := [.string (ba n)]) 29 Try.func22 rfl rfl rfl (fun w0 => ?_)
  refine w_seq ?_
  refine w_region ?_
  refine o_y (y_assign rfl) rfl rfl ?_
  refine wl_nil ?_
  refine e_seq ?_
  refine w_seq ?_
  refine w_region ?_
  refine o_y (y_move rfl) rfl rfl ?_
  refine o_callr1 rfl ent_21 rfl (c_ref02_Labels _) (fun w hw => rd_nil) (fun ⟨A0, c0⟩ => ?_)
  have hlb := labsN_le n hn
  refine o_y (y_assign rfl) rfl rfl ?_
  refine wl_nil ?_
  refine e_seq ?_
  refine w_seq ?_
  refine w_seq ?_
  refine w_region ?_
  refine o_y (y_assign rfl) rfl rfl ?_
  refine wl_nil ?_
  refine e_seq ?_
  refine w_block ?_
  refine w_loop1 (σ := Nat) [3, 4, 9, 10, 11, 12, 13, 14, 15, 16, 17, 18, 19, 20, 21, 22] (fun k => k ≤ (labsN n).length) (fun k => (labsN n).length - k) (fun k => [(4, .int .i64 k), (3, .slice A0 (((labsN n).take k).map lowS ++ (labsN n).drop k).length c0)]) (fun k => Ch.ls A0 c0 9 1 encs (((labsN n).take k).map lowS ++ (labsN n).drop k)) (0) ?_ ⟨rfl, rfl, trivial⟩ rfl (fun k hI => ?_)
  · exact Nat.zero_le _
  have hml := mapS_len lowS (labsN n) k
  refine w_seq ?_
  refine w_seq ?_
  refine w_region ?_
  refine o_y (y_move rfl) rfl rfl ?_
  refine o_y (y_move rfl) rfl rfl ?_
  refine o_y (y_lenl Try.underlying36 rfl) rfl rfl ?_
  refine o_y (y_lss rfl rfl) rfl rfl ?_
  refine wl_splitp (t := 12) rfl (fun h3_3 => ?_) (fun h3_3 => ?_)
  · skip
    refine wl_nil ?_
    refine e_seq ?_
    refine w_cond_t rfl ?_
    refine w_skip ?_
    refine e_seq ?_
    refine w_seq ?_
    refine w_block ?_
    refine w_region ?_
    refine o_y (y_move rfl) rfl rfl ?_
    refine o_y (y_move rfl) rfl rfl ?_
    refine o_y (y_move rfl) rfl rfl ?_
    refine o_y (y_move rfl) rfl rfl ?_
    refine o_y (y_ixm  Try.underlying36 ty_9 rfl rfl (rs_L 0 rfl) rfl (by rw [mapS_len]; omega)) rfl rfl ?_
    refine o_y (y_ldm0 enc_s ([] : Str) ty_9 rfl (rs_L 0 rfl) (by rw [mapS_len]; omega) rfl rfl) rfl rfl ?_
    refine o_callp rfl ent_61 (c_ref01_Fold _ (fold_b (by omega) hlb.2.1)) rfl ?_
    refine o_y (y_ixm  Try.underlying36 ty_9 rfl rfl (rs_L 0 rfl) rfl (by rw [mapS_len]; omega)) rfl rfl ?_
    refine o_stm0 enc_s ([] : Str) _ ty_9 rfl rfl rfl .z rfl (by rw [mapS_len]; omega) rfl rfl rfl ?_
    refine wl_nil ?_
    refine e_blk ?_
    refine e_seq ?_
    refine w_region ?_
    refine o_y (y_move rfl) rfl rfl ?_
    refine o_y (y_addi rfl rfl (by omega) (by omega)) rfl rfl ?_
    refine o_y (y_assign rfl) rfl rfl ?_
    refine wl_nil ?_
    have hk : k < (labsN n).length := by omega
    refine e_back (k + 1) ?_ ?_ ⟨rfl, lk rfl (by rw [mapS_len, mapS_len]), trivial⟩ (by repeat (first | exact trivial | refine ⟨rfl, ?_⟩)) (fun w h => by rw [mapS_at lowS (labsN n) k hk, mapS_step lowS (labsN n) k hk] at h; exact h)
    · omega
    · omega
  · skip
    refine wl_nil ?_
    refine e_seq ?_
    refine w_cond_f rfl ?_
    refine w_exit ?_
    refine e_seq_exit ?_
    refine e_loop_exit ?_
    refine e_blk_hit ?_
    refine e_seq ?_
    refine w_seq ?_
    refine w_region ?_
    obtain rfl : k = (labsN n).length := by omega
    refine o_y (y_move rfl) rfl rfl ?_
    refine o_callq rfl ent_62 rfl (c_ref02_Make _ _ _ (by simp; omega)) (fun w hw => (rd_cons (rd_Ls 0 rfl hw) rd_nil)) ?_
    refine o_y (y_move rfl) rfl rfl ?_
    refine o_y (y_extract rfl rfl) rfl rfl ?_
    refine o_y (y_extract rfl rfl) rfl rfl ?_
    refine o_y (y_assign rfl) rfl rfl ?_
    refine o_y (y_assign rfl) rfl rfl ?_
    refine wl_nil ?_
    refine e_seq ?_
    refine w_seq ?_
    refine w_region ?_
    refine o_y (y_move rfl) rfl rfl ?_
    refine o_y (y_assign rfl) rfl rfl ?_
    refine wl_nil ?_
    refine e_seq ?_
    refine w_ret ?_
    refine e_ret (ts := [2]) rfl rfl rfl (fun w hw => ?_)
    exact ⟨(), by rw [← make_fold]; simp [resV], hw.base, (hw.weak (List.nil_sublist _) (fun s hs => hs)).toNews⟩

theorem p_ref02_Fold (n : Str) (hn : n.length ≤ 1000000000) : Pure Try.prog 22 #[.string (ba n)] (.string (ba (foldN n))) := rc_pure (c_ref02_Fold n hn)

theorem take_eq_succ {α : Type} {a b : List α} (d : α) {k : Nat} (ha : k < a.length) (hb : k < b.length) (h : a.take k = b.take k) (he : a.getD k d = b.getD k d) : a.take (k + 1) = b.take (k + 1) := by
  rw [take_getD a d k ha, take_getD b d k hb, h, he]
theorem ne_of_getD {α : Type} {a b : List α} (d : α) {k : Nat} (he : a.getD k d ≠ b.getD k d) : a ≠ b := fun e => he (by rw [e])

end Go.Proofs.Ytckfjfnkombelaa
