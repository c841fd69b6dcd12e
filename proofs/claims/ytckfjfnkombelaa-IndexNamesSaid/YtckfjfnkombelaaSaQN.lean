/- search: joins, checks, candidates -/
import Derived.Test.YtckfjfnkombelaaCmQN
import Derived.Test.YtckfjfnkombelaaPeQN
import Derived.Test.YtckfjfnkombelaaLoQN
namespace Go.Proofs.Ytckfjfnkombelaa
open Go.RowKit Go.Shelf
set_option linter.unusedVariables false
set_option linter.unusedSimpArgs false

theorem ent_107 : Enters Try.prog 107 := enters_of Try.func107 (by kernel_rfl) rfl
theorem ent_74 : Enters Try.prog 74 := enters_of Try.func74 (by kernel_rfl) rfl
theorem ty_22 : TyI Try.prog 22 false 1 24 (.slice none 0 0) := TyI.mk' (by kernel_rfl) (fun _ => by kernel_rfl)
theorem ty_28 : TyI Try.prog 28 false 1 8 (.int .i64 0) := TyI.mk' (by kernel_rfl) (fun _ => by kernel_rfl)

/-- The first that is not zero. -/
def orI : List Int → Int
  | [] => 0
  | a :: r => if a ≠ 0 then a else orI r

theorem c_Or (l : List Int) (A : Option Addr) (c : Nat) (hl : l.length ≤ 1000000000000) : RC Try.prog 107 #[.slice A l.length c] [Ch.rd A 1 enci l] (α := Unit) (fun _ => .int .i64 (orI l)) (fun _ => []) := by
  refine rc_of_W (args := [.slice A l.length c]) 18 Try.func107 rfl rfl rfl (fun w0 => ?_)
  refine w_seq ?_
  refine w_region ?_
  refine o_y (y_assign rfl) rfl rfl ?_
  refine wl_nil ?_
  refine e_seq ?_
  refine w_seq ?_
  refine w_region ?_
  refine o_y (y_assign rfl) rfl rfl ?_
  refine wl_nil ?_
  refine e_seq ?_
  refine w_seq ?_
  refine w_seq ?_
  refine w_region ?_
  refine o_y (y_move rfl) rfl rfl ?_
  refine o_y (y_lenl Try.underlying179 rfl) rfl rfl ?_
  refine o_y (y_move rfl) rfl rfl ?_
  refine wl_nil ?_
  refine e_seq ?_
  refine w_block ?_
  refine w_loop0 (σ := Nat) [2, 5, 8, 9, 10, 11, 12, 13, 14, 15, 16] (fun k => k ≤ l.length ∧ orI l = orI (l.drop k)) (fun k => l.length - k) (fun k => [(8, .int .i64 k)]) (0) ?_ ⟨rfl, trivial⟩ (fun k hI => ?_)
  · exact ⟨Nat.zero_le _, rfl⟩
  refine w_seq ?_
  refine w_region ?_
  refine o_y (y_lss rfl rfl) rfl rfl ?_
  refine wl_splitp (t := 9) rfl (fun h3_0 => ?_) (fun h3_0 => ?_)
  · skip
    refine wl_nil ?_
    refine e_seq ?_
    refine w_seq ?_
    refine w_cond_t rfl ?_
    refine w_skip ?_
    refine e_seq ?_
    refine w_seq ?_
    refine w_block ?_
    refine w_seq ?_
    refine w_region ?_
    refine o_y (y_ixm  Try.underlying179 ty_28 rfl rfl (rs_S 0 rfl) rfl (by omega)) rfl rfl ?_
    refine o_y (y_ldm0 enc_i (0 : Int) ty_28 rfl (rs_S 0 rfl) (by omega) rfl rfl) rfl rfl ?_
    refine o_y (y_assign rfl) rfl rfl ?_
    refine wl_nil ?_
    refine e_seq ?_
    refine w_seq ?_
    refine w_region ?_
    refine o_y (y_move rfl) rfl rfl ?_
    refine o_y (y_move rfl) rfl rfl ?_
    refine o_y (y_neq rfl rfl) rfl rfl ?_
    refine wl_splitp (t := 14) rfl (fun h5_2 => ?_) (fun h5_2 => ?_)
    · skip
      refine wl_nil ?_
      refine e_seq ?_
      refine w_cond_t rfl ?_
      refine w_seq ?_
      refine w_region ?_
      refine o_y (y_move rfl) rfl rfl ?_
      refine o_y (y_assign rfl) rfl rfl ?_
      refine wl_nil ?_
      refine e_seq ?_
      refine w_ret ?_
      refine e_blk_ret ?_
      refine e_seq_ret ?_
      refine e_loop_ret ?_
      refine e_blk_ret ?_
      refine e_seq_ret ?_
      refine e_ret (ts := [2]) rfl rfl rfl (fun w hw => ?_)
      have hk : k < l.length := by omega
      have hdk := drop_getD l 0 k hk
      exact ⟨(), by rw [hI.2, hdk, orI, if_pos h5_2]; rfl, hw.base, (hw.weak (List.nil_sublist _) (fun s hs => hs)).toNews⟩
    · skip
      refine wl_nil ?_
      refine e_seq ?_
      refine w_cond_f rfl ?_
      refine w_skip ?_
      refine e_blk ?_
      refine e_seq ?_
      refine w_region ?_
      refine o_y (y_addi rfl rfl (by omega) (by omega)) rfl rfl ?_
      refine o_y (y_move rfl) rfl rfl ?_
      refine wl_nil ?_
      have hk : k < l.length := by omega
      have hdk := drop_getD l 0 k hk
      refine e_back (k + 1) ?_ ?_ ⟨rfl, trivial⟩ (by repeat (first | exact trivial | refine ⟨rfl, ?_⟩)) (fun w h => h)
      · exact ⟨by omega, by rw [hI.2, hdk, orI, if_neg h5_2]⟩
      · omega
  · skip
    refine wl_nil ?_
    refine e_seq ?_
    refine w_seq ?_
    refine w_cond_f rfl ?_
    refine w_exit ?_
    refine e_seq_exit ?_
    refine e_loop_exit ?_
    refine e_blk_hit ?_
    refine e_seq ?_
    refine w_seq ?_
    refine w_region ?_
    refine o_y (y_move rfl) rfl rfl ?_
    refine o_y (y_assign rfl) rfl rfl ?_
    refine wl_nil ?_
    refine e_seq ?_
    refine w_ret ?_
    refine e_ret (ts := [2]) rfl rfl rfl (fun w hw => ?_)
    exact ⟨(), by rw [hI.2, List.drop_of_length_le (by omega)]; rfl, hw.base, (hw.weak (List.nil_sublist _) (fun s hs => hs)).toNews⟩

theorem join_bad {a b : Str} (h : joinE a b ≠ 0) : joinN a b = [] := if_neg h
theorem join_good {a b : Str} (h : joinE a b = 0) : joinN a b = a ++ b := if_pos h
theorem or2 (a b : Str) : orI [nameCk a, nameCk b] = if nameCk a ≠ 0 then nameCk a else nameCk b := by
  simp only [orI]
  split
  · rfl
  · split
    · rfl
    · omega
theorem joinE_or {a b : Str} (h : orI [nameCk a, nameCk b] ≠ 0) : joinE a b = orI [nameCk a, nameCk b] := by
  rw [or2] at h ⊢
  unfold joinE
  split
  · rfl
  · rename_i h1
    rw [if_neg h1] at h
    rw [if_pos h]
theorem joinE_len {a b : Str} (h : ¬ orI [nameCk a, nameCk b] ≠ 0) : joinE a b = if 254 < a.length + b.length then 3 else 0 := by
  rw [or2] at h
  unfold joinE
  by_cases h1 : nameCk a ≠ 0
  · rw [if_pos h1] at h; omega
  · rw [if_neg h1] at h
    rw [if_neg h1, if_neg h]

theorem c_name_Join (a b : Str) (ha : a.length ≤ 1000000000000) (hb : b.length ≤ 1000000000000) : RC Try.prog 74 #[.string (ba a), .string (ba b)] [] (α := Unit) (fun _ => .tuple #[.string (ba (joinN a b)), .int .i64 (joinE a b)]) (fun _ => []) := by
  refine rc_of_W (args := [.string (ba a), .string (ba b)]) 25 Try.func74 rfl rfl rfl (fun w0 => ?_)
  refine w_seq ?_
  refine w_region ?_
  refine o_y (y_assign rfl) rfl rfl ?_
  refine o_y (y_assign rfl) rfl rfl ?_
  refine wl_nil ?_
  refine e_seq ?_
  refine w_seq ?_
  refine w_seq ?_
  refine w_region ?_
  refine o_y (y_move rfl) rfl rfl ?_
  refine o_callp rfl ent_57 (c_name_Check _) rfl ?_
  refine o_y (y_move rfl) rfl rfl ?_
  refine o_callp rfl ent_57 (c_name_Check _) rfl ?_
  refine o_bsl (vs := [_, _]) ([nameCk a, nameCk b] : List (Int)) enc_i Try.underlying179 ty_28 rfl rfl rfl rfl rfl rfl (fun As1 => ?_)
  refine o_callq rfl ent_107 rfl (c_Or _ _ _ (by simp)) (fun w hw => (rd_cons (rd_Ls 0 rfl hw) rd_nil)) ?_
  refine o_y (y_assign rfl) rfl rfl ?_
  refine wl_nil ?_
  refine e_seq ?_
  refine w_seq ?_
  refine w_region ?_
  refine o_y (y_move rfl) rfl rfl ?_
  refine o_y (y_neq rfl rfl) rfl rfl ?_
  refine wl_splitp (t := 14) rfl (fun h2_1 => ?_) (fun h2_1 => ?_)
  · skip
    refine wl_nil ?_
    refine e_seq ?_
    refine w_cond_t rfl ?_
    refine w_seq ?_
    refine w_region ?_
    refine o_y (y_move rfl) rfl rfl ?_
    refine o_y (y_assign rfl) rfl rfl ?_
    refine o_y (y_assign rfl) rfl rfl ?_
    refine wl_nil ?_
    refine e_seq ?_
    refine w_ret ?_
    refine e_seq_ret ?_
    refine e_ret (ts := [4, 5]) rfl rfl rfl (fun w hw => ?_)
    first
      | (have hj := joinE_or (a := a) (b := b) h2_1
         have hn := join_bad (a := a) (b := b) (by rw [hj]; exact h2_1)
         exact ⟨(), by rw [hj, hn]; rfl, hw.base, (hw.weak (List.nil_sublist _) (fun s hs => hs)).toNews⟩)
      | (have hj : joinE a b = 3 := by rw [joinE_len h2_1, if_pos (by omega)]
         have hn := join_bad (a := a) (b := b) (by omega)
         exact ⟨(), by rw [hj, hn]; rfl, hw.base, (hw.weak (List.nil_sublist _) (fun s hs => hs)).toNews⟩)
      | (have hj : joinE a b = 0 := by rw [joinE_len h2_1, if_neg (by omega)]
         have hn := join_good (a := a) (b := b) (by omega)
         exact ⟨(), by rw [hj, hn]; rfl, hw.base, (hw.weak (List.nil_sublist _) (fun s hs => hs)).toNews⟩)
      | (trace_state; fail)
  · skip
    refine wl_nil ?_
    refine e_seq ?_
    refine w_cond_f rfl ?_
    refine w_skip ?_
    refine e_seq ?_
    refine w_seq ?_
    refine w_seq ?_
    refine w_region ?_
    refine o_y (y_move rfl) rfl rfl ?_
    refine o_y (y_lens Try.underlying25 rfl) rfl rfl ?_
    refine o_y (y_move rfl) rfl rfl ?_
    refine o_y (y_lens Try.underlying25 rfl) rfl rfl ?_
    refine o_y (y_addi rfl rfl (by omega) (by omega)) rfl rfl ?_
    refine o_y (y_gtr rfl rfl) rfl rfl ?_
    refine wl_splitp (t := 21) rfl (fun h4_5 => ?_) (fun h4_5 => ?_)
    · skip
      refine wl_nil ?_
      refine e_seq ?_
      refine w_cond_t rfl ?_
      refine w_seq ?_
      refine w_region ?_
      refine o_y (y_assign rfl) rfl rfl ?_
      refine o_y (y_assign rfl) rfl rfl ?_
      refine wl_nil ?_
      refine e_seq ?_
      refine w_ret ?_
      refine e_seq_ret ?_
      refine e_ret (ts := [4, 5]) rfl rfl rfl (fun w hw => ?_)
      first
        | (have hj := joinE_or (a := a) (b := b) h2_1
           have hn := join_bad (a := a) (b := b) (by rw [hj]; exact h2_1)
           exact ⟨(), by rw [hj, hn]; rfl, hw.base, (hw.weak (List.nil_sublist _) (fun s hs => hs)).toNews⟩)
        | (have hj : joinE a b = 3 := by rw [joinE_len h2_1, if_pos (by omega)]
           have hn := join_bad (a := a) (b := b) (by omega)
           exact ⟨(), by rw [hj, hn]; rfl, hw.base, (hw.weak (List.nil_sublist _) (fun s hs => hs)).toNews⟩)
        | (have hj : joinE a b = 0 := by rw [joinE_len h2_1, if_neg (by omega)]
           have hn := join_good (a := a) (b := b) (by omega)
           exact ⟨(), by rw [hj, hn]; rfl, hw.base, (hw.weak (List.nil_sublist _) (fun s hs => hs)).toNews⟩)
        | (trace_state; fail)
    · skip
      refine wl_nil ?_
      refine e_seq ?_
      refine w_cond_f rfl ?_
      refine w_skip ?_
      refine e_seq ?_
      refine w_seq ?_
      refine w_region ?_
      refine o_y (y_move rfl) rfl rfl ?_
      refine o_y (y_move rfl) rfl rfl ?_
      refine o_y (y_adds rfl rfl (by omega)) rfl rfl ?_
      refine o_y (y_assign rfl) rfl rfl ?_
      refine o_y (y_assign rfl) rfl rfl ?_
      refine wl_nil ?_
      refine e_seq ?_
      refine w_ret ?_
      refine e_ret (ts := [4, 5]) rfl rfl rfl (fun w hw => ?_)
      first
        | (have hj := joinE_or (a := a) (b := b) h2_1
           have hn := join_bad (a := a) (b := b) (by rw [hj]; exact h2_1)
           exact ⟨(), by rw [hj, hn]; rfl, hw.base, (hw.weak (List.nil_sublist _) (fun s hs => hs)).toNews⟩)
        | (have hj : joinE a b = 3 := by rw [joinE_len h2_1, if_pos (by omega)]
           have hn := join_bad (a := a) (b := b) (by omega)
           exact ⟨(), by rw [hj, hn]; rfl, hw.base, (hw.weak (List.nil_sublist _) (fun s hs => hs)).toNews⟩)
        | (have hj : joinE a b = 0 := by rw [joinE_len h2_1, if_neg (by omega)]
           have hn := join_good (a := a) (b := b) (by omega)
           exact ⟨(), by rw [hj, hn]; rfl, hw.base, (hw.weak (List.nil_sublist _) (fun s hs => hs)).toNews⟩)
        | (trace_state; fail)

theorem p_name_Join (a b : Str) (ha : a.length ≤ 1000000000000) (hb : b.length ≤ 1000000000000) : Pure Try.prog 74 #[.string (ba a), .string (ba b)] (.tuple #[.string (ba (joinN a b)), .int .i64 (joinE a b)]) := rc_pure (c_name_Join a b ha hb)

def same2 (a b : Str) : Bool := decide (nameCk a = 0) && decide (nameCk b = 0) && decide (foldN a = foldN b)

theorem c_ref02_Same (a b : Str) (ha : a.length ≤ 1000000000) (hb : b.length ≤ 1000000000) : Pure Try.prog 20 #[.string (ba a), .string (ba b)] (.bool (same2 a b)) := by
  intro w0
  refine calls_of_W (ok0 := no) (S := []) (args := [.string (ba a), .string (ba b)]) 20 Try.func20 rfl rfl rfl (by simp) (by simp) ?_
  refine w_seq ?_
  refine w_region ?_
  refine o_y (y_assign rfl) rfl rfl ?_
  refine wl_nil ?_
  refine e_seq ?_
  refine w_seq ?_
  refine w_region ?_
  refine o_y (y_move rfl) rfl rfl ?_
  refine o_callp rfl ent_17 (c_ref02_Check _) rfl ?_
  refine o_y (y_eql rfl rfl) rfl rfl ?_
  refine wl_splitp (t := 7) rfl (fun h1_2 => ?_) (fun h1_2 => ?_)
  · skip
    refine o_y (y_move rfl) rfl rfl ?_
    refine wl_gyes rfl rfl ?_
    refine o_y (y_move rfl) rfl rfl ?_
    refine wl_gyes rfl rfl ?_
    refine o_callp rfl ent_17 (c_ref02_Check _) rfl ?_
    refine wl_gyes rfl rfl ?_
    refine o_y (y_eql rfl rfl) rfl rfl ?_
    refine wl_splitp (t := 11) rfl (fun h1_6 => ?_) (fun h1_6 => ?_)
    · skip
      refine o_y (y_pick_t rfl rfl) rfl rfl ?_
      refine o_y (y_move rfl) rfl rfl ?_
      refine wl_gyes rfl rfl ?_
      refine o_y (y_move rfl) rfl rfl ?_
      refine wl_gyes rfl rfl ?_
      refine o_callp rfl ent_22 (p_ref02_Fold _ (by omega)) rfl ?_
      refine wl_gyes rfl rfl ?_
      refine o_y (y_move rfl) rfl rfl ?_
      refine wl_gyes rfl rfl ?_
      refine o_callp rfl ent_22 (p_ref02_Fold _ (by omega)) rfl ?_
      refine wl_gyes rfl rfl ?_
      refine o_y (y_eqls rfl rfl) rfl rfl ?_
      refine o_y (y_pick_t rfl rfl) rfl rfl ?_
      refine o_y (y_assign rfl) rfl rfl ?_
      refine wl_nil ?_
      refine e_seq ?_
      refine w_ret ?_
      refine e_ret (ts := [4]) rfl rfl rfl (fun w hw => ?_)
      refine ⟨?_, hw.base⟩
      show Ending.returned (.bool _) = _
      congr 2
      simp [same2, *]
    · skip
      refine o_y (y_pick_t rfl rfl) rfl rfl ?_
      refine o_y (y_move rfl) rfl rfl ?_
      refine wl_gno rfl rfl rfl rfl ?_
      refine wl_gno rfl rfl rfl rfl ?_
      refine wl_gno rfl rfl rfl rfl ?_
      refine wl_gno rfl rfl rfl rfl ?_
      refine wl_gno rfl rfl rfl rfl ?_
      refine o_y (y_pick_f rfl rfl) rfl rfl ?_
      refine o_y (y_assign rfl) rfl rfl ?_
      refine wl_nil ?_
      refine e_seq ?_
      refine w_ret ?_
      refine e_ret (ts := [4]) rfl rfl rfl (fun w hw => ?_)
      refine ⟨?_, hw.base⟩
      show Ending.returned (.bool _) = _
      congr 2
      simp [same2, *]
  · skip
    refine o_y (y_move rfl) rfl rfl ?_
    refine wl_gno rfl rfl rfl rfl ?_
    refine wl_gno rfl rfl rfl rfl ?_
    refine wl_gno rfl rfl rfl rfl ?_
    refine o_y (y_pick_f rfl rfl) rfl rfl ?_
    refine o_y (y_move rfl) rfl rfl ?_
    refine wl_gno rfl rfl rfl rfl ?_
    refine wl_gno rfl rfl rfl rfl ?_
    refine wl_gno rfl rfl rfl rfl ?_
    refine wl_gno rfl rfl rfl rfl ?_
    refine wl_gno rfl rfl rfl rfl ?_
    refine o_y (y_pick_f rfl rfl) rfl rfl ?_
    refine o_y (y_assign rfl) rfl rfl ?_
    refine wl_nil ?_
    refine e_seq ?_
    refine w_ret ?_
    refine e_ret (ts := [4]) rfl rfl rfl (fun w hw => ?_)
    refine ⟨?_, hw.base⟩
    show Ending.returned (.bool _) = _
    congr 2
    simp [same2, *]

end Go.Proofs.Ytckfjfnkombelaa
