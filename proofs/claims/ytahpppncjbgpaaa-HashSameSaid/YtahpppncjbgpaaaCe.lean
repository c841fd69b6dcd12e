/- names that are the same; the laws of sums -/
import Derived.Test.YtahpppncjbgpaaaCd
import Derived.Test.YtahpppncjbgpaaaPb
namespace Go.Proofs.Ytahpppncjbgpaaa
open Go.RowKit Go.Shelf
set_option linter.unusedVariables false
set_option linter.unusedSimpArgs false

theorem ent_101 : Enters Try.prog 101 := enters_of Try.func101 (by kernel_rfl) rfl
theorem ent_19 : Enters Try.prog 19 := enters_of Try.func19 (by kernel_rfl) rfl
theorem ent_24 : Enters Try.prog 24 := enters_of Try.func24 (by kernel_rfl) rfl
theorem ent_25 : Enters Try.prog 25 := enters_of Try.func25 (by kernel_rfl) rfl
theorem ent_26 : Enters Try.prog 26 := enters_of Try.func26 (by kernel_rfl) rfl
theorem ent_28 : Enters Try.prog 28 := enters_of Try.func28 (by kernel_rfl) rfl
theorem ent_53 : Enters Try.prog 53 := enters_of Try.func53 (by kernel_rfl) rfl
theorem ent_55 : Enters Try.prog 55 := enters_of Try.func55 (by kernel_rfl) rfl
theorem ent_56 : Enters Try.prog 56 := enters_of Try.func56 (by kernel_rfl) rfl
theorem ent_89 : Enters Try.prog 89 := enters_of Try.func89 (by kernel_rfl) rfl
theorem ent_97 : Enters Try.prog 97 := enters_of Try.func97 (by kernel_rfl) rfl
theorem ty_34 : TyI Try.prog 34 false 1 24 (.slice none 0 0) := TyI.mk' (by kernel_rfl) (fun _ => by kernel_rfl)
theorem ty_4 : TyI Try.prog 4 false 1 1 (.bool false) := TyI.mk' (by kernel_rfl) (fun _ => by kernel_rfl)

theorem c_CompareString (s t : Str) : Pure Try.prog 101 #[.string (ba s), .string (ba t)] (.int .i64 (cmpS s t)) := by
  intro w0
  refine calls_of_W (ok0 := no) (S := []) (args := [.string (ba s), .string (ba t)]) 8 Try.func101 rfl rfl rfl (by simp) (by simp) ?_
  refine w_seq ?_
  refine w_region ?_
  refine o_y (y_assign rfl) rfl rfl ?_
  refine wl_nil ?_
  refine e_seq ?_
  refine w_seq ?_
  refine w_region ?_
  refine o_y (y_move rfl) rfl rfl ?_
  refine o_y (y_move rfl) rfl rfl ?_
  refine o_ext rfl (fun w => by rw [run_callFunc_extern Try.func103 (by kernel_rfl) (by kernel_rfl) (by kernel_rfl) (e := Extern.BytealgCompare.compare) (by kernel_rfl), run_cmp]; rfl) rfl ?_
  refine o_y (y_assign rfl) rfl rfl ?_
  refine wl_nil ?_
  refine e_seq ?_
  refine w_ret ?_
  refine e_ret (ts := [4]) rfl rfl rfl (fun w hw => ?_)
  exact ⟨rfl, hw.base⟩

theorem c_strings_Compare (s t : Str) : Pure Try.prog 97 #[.string (ba s), .string (ba t)] (.int .i64 (cmpS s t)) := by
  intro w0
  refine calls_of_W (ok0 := no) (S := []) (args := [.string (ba s), .string (ba t)]) 8 Try.func97 rfl rfl rfl (by simp) (by simp) ?_
  refine w_seq ?_
  refine w_region ?_
  refine o_y (y_assign rfl) rfl rfl ?_
  refine wl_nil ?_
  refine e_seq ?_
  refine w_seq ?_
  refine w_region ?_
  refine o_y (y_move rfl) rfl rfl ?_
  refine o_y (y_move rfl) rfl rfl ?_
  refine o_callp rfl ent_101 (c_CompareString _ _) rfl ?_
  refine o_y (y_assign rfl) rfl rfl ?_
  refine wl_nil ?_
  refine e_seq ?_
  refine w_ret ?_
  refine e_ret (ts := [4]) rfl rfl rfl (fun w hw => ?_)
  exact ⟨rfl, hw.base⟩

theorem c_label_Compare (s t : Str) (hs : s.length ≤ 1000000000000) (ht : t.length ≤ 1000000000000) : Pure Try.prog 89 #[.string (ba s), .string (ba t)] (.int .i64 (cmpS (lowS s) (lowS t))) := by
  intro w0
  refine calls_of_W (ok0 := no) (S := []) (args := [.string (ba s), .string (ba t)]) 10 Try.func89 rfl rfl rfl (by simp) (by simp) ?_
  refine w_seq ?_
  refine w_region ?_
  refine o_y (y_assign rfl) rfl rfl ?_
  refine wl_nil ?_
  refine e_seq ?_
  refine w_seq ?_
  refine w_region ?_
  refine o_y (y_move rfl) rfl rfl ?_
  refine o_callp rfl ent_51 (c_label_Fold _ (by omega)) rfl ?_
  refine o_y (y_move rfl) rfl rfl ?_
  refine o_callp rfl ent_51 (c_label_Fold _ (by omega)) rfl ?_
  refine o_callp rfl ent_97 (c_strings_Compare _ _) rfl ?_
  refine o_y (y_assign rfl) rfl rfl ?_
  refine wl_nil ?_
  refine e_seq ?_
  refine w_ret ?_
  refine e_ret (ts := [4]) rfl rfl rfl (fun w hw => ?_)
  exact ⟨rfl, hw.base⟩

theorem c_label_Same (s t : Str) (hs : s.length ≤ 1000000000000) (ht : t.length ≤ 1000000000000) : Pure Try.prog 56 #[.string (ba s), .string (ba t)] (.bool (decide (lowS s = lowS t))) := by
  intro w0
  refine calls_of_W (ok0 := no) (S := []) (args := [.string (ba s), .string (ba t)]) 9 Try.func56 rfl rfl rfl (by simp) (by simp) ?_
  refine w_seq ?_
  refine w_region ?_
  refine o_y (y_assign rfl) rfl rfl ?_
  refine wl_nil ?_
  refine e_seq ?_
  refine w_seq ?_
  refine w_region ?_
  refine o_y (y_move rfl) rfl rfl ?_
  refine o_y (y_move rfl) rfl rfl ?_
  refine o_callp rfl ent_89 (c_label_Compare _ _ (by omega) (by omega)) rfl ?_
  refine o_y (y_eql rfl rfl) rfl rfl ?_
  refine o_y (y_assign rfl) rfl rfl ?_
  refine wl_nil ?_
  refine e_seq ?_
  refine w_ret ?_
  refine e_ret (ts := [4]) rfl rfl rfl (fun w hw => ?_)
  exact ⟨by show Ending.returned (.bool _) = _; congr 2; rw [Bool.eq_iff_iff]; simp [cmpS_zero], hw.base⟩


theorem mem_getD {α : Type} {l : List α} {d : α} {k : Nat} (h : k < l.length) : l.getD k d ∈ l := by
  rw [List.getD_eq_getElem?_getD, List.getElem?_eq_getElem h]; exact List.getElem_mem h
theorem map_eq_succ {α β : Type} (F : α → β) {a b : List α} (d : α) {k : Nat} (ha : k < a.length) (hb : k < b.length) (h : (a.take k).map F = (b.take k).map F) (he : F (a.getD k d) = F (b.getD k d)) : (a.take (k + 1)).map F = (b.take (k + 1)).map F := by
  rw [take_getD a d k ha, take_getD b d k hb, List.map_append, List.map_append, h]; show _ ++ [F (a.getD k d)] = _ ++ [F (b.getD k d)]; rw [he]
theorem map_ne_at {α β : Type} (F : α → β) {a b : List α} (d : α) {k : Nat} (ha : k < a.length) (hb : k < b.length) (he : F (a.getD k d) ≠ F (b.getD k d)) : a.map F ≠ b.map F := fun e => he (by
  have := congrArg (fun l : List β => l.getD k (F d)) e
  simpa [List.getD_eq_getElem?_getD, ha, hb] using this)


theorem c_EqualFunc_s (xs ys : List Str) (A B : Option Addr) (c e f : Nat) (F : Str → Str) (hf : ∀ s ∈ xs, ∀ t ∈ ys, Pure Try.prog f #[.string (ba s), .string (ba t)] (.bool (decide (F s = F t)))) (hen : Enters Try.prog f) (hl : xs.length ≤ 1000000000000) : RC Try.prog 55 #[.slice A xs.length c, .slice B ys.length e, .func (.func f) #[] #[]] [Ch.rd A 1 encs xs, Ch.rd B 1 encs ys] (α := Unit) (fun _ => .bool (decide (xs.map F = ys.map F))) (fun _ => []) := by
  refine rc_of_W (args := [.slice A xs.length c, .slice B ys.length e, .func (.func f) #[] #[]]) 32 Try.func55 rfl rfl rfl (fun w0 => ?_)
  refine w_seq ?_
  refine w_region ?_
  refine o_y (y_assign rfl) rfl rfl ?_
  refine wl_nil ?_
  refine e_seq ?_
  refine w_seq ?_
  refine w_seq ?_
  refine w_region ?_
  refine o_y (y_move rfl) rfl rfl ?_
  refine o_y (y_lenl Try.underlying56 rfl) rfl rfl ?_
  refine o_y (y_move rfl) rfl rfl ?_
  refine o_y (y_lenl Try.underlying56 rfl) rfl rfl ?_
  refine o_y (y_neq rfl rfl) rfl rfl ?_
  refine wl_splitp (t := 14) rfl (fun h1_4 => ?_) (fun h1_4 => ?_)
  · skip
    refine wl_nil ?_
    refine e_seq ?_
    refine w_cond_t rfl ?_
    refine w_seq ?_
    refine w_region ?_
    refine o_y (y_assign rfl) rfl rfl ?_
    refine wl_nil ?_
    refine e_seq ?_
    refine w_ret ?_
    refine e_seq_ret ?_
    refine e_ret (ts := [6]) rfl rfl rfl (fun w hw => ?_)
    have hne : xs.map F ≠ ys.map F := fun he => by have := congrArg List.length he; simp at this; omega
    exact ⟨(), by rw [decide_eq_false hne]; rfl, hw.base, hw.toNews⟩
  · skip
    refine wl_nil ?_
    refine e_seq ?_
    refine w_cond_f rfl ?_
    refine w_skip ?_
    refine e_seq ?_
    refine w_seq ?_
    refine w_seq ?_
    refine w_region ?_
    refine o_y (y_move rfl) rfl rfl ?_
    refine o_y (y_lenl Try.underlying56 rfl) rfl rfl ?_
    refine o_y (y_move rfl) rfl rfl ?_
    refine wl_nil ?_
    refine e_seq ?_
    refine w_block ?_
    refine w_loop0 (σ := Nat) [6, 7, 8, 9, 17, 18, 19, 20, 21, 22, 23, 24, 25, 26, 27, 28, 29, 30, 31] (fun k => k ≤ xs.length ∧ (xs.take k).map F = (ys.take k).map F) (fun k => xs.length - k) (fun k => [(17, .int .i64 k)]) (0) ?_ ⟨rfl, trivial⟩ (fun k hI => ?_)
    · exact ⟨Nat.zero_le _, rfl⟩
    refine w_seq ?_
    refine w_region ?_
    refine o_y (y_lss rfl rfl) rfl rfl ?_
    refine wl_splitp (t := 18) rfl (fun h4_0 => ?_) (fun h4_0 => ?_)
    · skip
      have hkx : k < xs.length := by omega
      have hky : k < ys.length := by omega
      refine wl_nil ?_
      refine e_seq ?_
      refine w_seq ?_
      refine w_cond_t rfl ?_
      refine w_skip ?_
      refine e_seq ?_
      refine w_seq ?_
      refine w_block ?_
      refine w_seq ?_
      refine w_region ?_
      refine o_y (y_move rfl) rfl rfl ?_
      refine o_y (y_ixm  Try.underlying56 ty_9 rfl rfl (rs_S 0 rfl) rfl (by omega)) rfl rfl ?_
      refine o_y (y_ldm0 enc_s ([] : Str) ty_9 rfl (rs_S 0 rfl) (by omega) rfl rfl) rfl rfl ?_
      refine o_y (y_assign rfl) rfl rfl ?_
      refine o_y (y_assign rfl) rfl rfl ?_
      refine wl_nil ?_
      refine e_seq ?_
      refine w_seq ?_
      refine w_region ?_
      refine o_y (y_move rfl) rfl rfl ?_
      refine o_y (y_move rfl) rfl rfl ?_
      refine o_y (y_ixm  Try.underlying56 ty_9 rfl rfl (rs_S 1 rfl) rfl (by omega)) rfl rfl ?_
      refine o_y (y_ldm0 enc_s ([] : Str) ty_9 rfl (rs_S 1 rfl) (by omega) rfl rfl) rfl rfl ?_
      refine o_y (y_assign rfl) rfl rfl ?_
      refine wl_nil ?_
      refine e_seq ?_
      refine w_seq ?_
      refine w_region ?_
      refine o_y (y_move rfl) rfl rfl ?_
      refine o_y (y_move rfl) rfl rfl ?_
      refine o_y (y_move rfl) rfl rfl ?_
      refine o_callvp rfl rfl rfl hen (hf _ (mem_getD hkx) _ (mem_getD hky)) rfl ?_
      refine wl_splitp (t := 29) rfl (fun h7_3 => ?_) (fun h7_3 => ?_)
      · skip
        refine o_y (y_not rfl) rfl rfl ?_
        refine wl_nil ?_
        refine e_seq ?_
        refine w_cond_f rfl ?_
        refine w_skip ?_
        refine e_blk ?_
        refine e_seq ?_
        refine w_region ?_
        refine o_y (y_addi rfl rfl (by omega) (by omega)) rfl rfl ?_
        refine o_y (y_move rfl) rfl rfl ?_
        refine wl_nil ?_
        refine e_back (k + 1) ?_ ?_ ⟨rfl, trivial⟩ (by repeat (first | exact trivial | refine ⟨rfl, ?_⟩)) (fun w h => h)
        · exact ⟨by omega, map_eq_succ F [] (by omega) (by omega) hI.2 h7_3⟩
        · omega
      · skip
        refine o_y (y_not rfl) rfl rfl ?_
        refine wl_nil ?_
        refine e_seq ?_
        refine w_cond_t rfl ?_
        refine w_seq ?_
        refine w_region ?_
        refine o_y (y_assign rfl) rfl rfl ?_
        refine wl_nil ?_
        refine e_seq ?_
        refine w_ret ?_
        refine e_blk_ret ?_
        refine e_seq_ret ?_
        refine e_loop_ret ?_
        refine e_blk_ret ?_
        refine e_seq_ret ?_
        refine e_ret (ts := [6]) rfl rfl rfl (fun w hw => ?_)
        first
          | (have hne : xs.map F ≠ ys.map F := map_ne_at F [] hkx hky h7_3
             exact ⟨(), by rw [decide_eq_false hne]; rfl, hw.base, hw.toNews⟩)
          | (have hk : k = xs.length := by omega
             have he : xs.map F = ys.map F := by have := hI.2; rw [hk, List.take_length, List.take_of_length_le (by omega)] at this; exact this
             exact ⟨(), by rw [decide_eq_true he]; rfl, hw.base, hw.toNews⟩)
    · skip
      refine wl_nil ?_
      refine e_seq ?_
      refine w_seq ?_
      refine w_cond_f rfl ?_
      refine w_exit ?_
      refine e_seq_exit ?_
      refine e_loop_exit ?_
      refine e_blk_hit ?_
      refine e_seq ?_
      refine w_seq ?_
      refine w_region ?_
      refine o_y (y_assign rfl) rfl rfl ?_
      refine wl_nil ?_
      refine e_seq ?_
      refine w_ret ?_
      refine e_ret (ts := [6]) rfl rfl rfl (fun w hw => ?_)
      first
        | (have hne : xs.map F ≠ ys.map F := map_ne_at F [] hkx hky h7_3
           exact ⟨(), by rw [decide_eq_false hne]; rfl, hw.base, hw.toNews⟩)
        | (have hk : k = xs.length := by omega
           have he : xs.map F = ys.map F := by have := hI.2; rw [hk, List.take_length, List.take_of_length_le (by omega)] at this; exact this
           exact ⟨(), by rw [decide_eq_true he]; rfl, hw.base, hw.toNews⟩)


/-- name.Same. -/
def sameN (a b : Str) : Bool := decide (nameCk a = 0) && decide (nameCk b = 0) && decide ((labsN a).map lowS = (labsN b).map lowS)
theorem sameN_fold {a b : Str} (h : sameN a b = true) : nameCk a = 0 ∧ nameCk b = 0 ∧ foldN a = foldN b := by
  simp only [sameN, Bool.and_eq_true, decide_eq_true_eq] at h
  exact ⟨h.1.1, h.1.2, by rw [← make_fold, ← make_fold, h.2]⟩


theorem c_name_Same (a b : Str) (ha : a.length ≤ 1000000000) (hb : b.length ≤ 1000000000) : RC Try.prog 28 #[.string (ba a), .string (ba b)] [] (α := Unit) (fun _ => .bool (sameN a b)) (fun _ => []) := by
  refine rc_of_W (args := [.string (ba a), .string (ba b)]) 20 Try.func28 rfl rfl rfl (fun w0 => ?_)
  have hla := labsN_le a ha
  have hlb := labsN_le b hb
  refine w_seq ?_
  refine w_region ?_
  refine o_y (y_assign rfl) rfl rfl ?_
  refine wl_nil ?_
  refine e_seq ?_
  refine w_seq ?_
  refine w_region ?_
  refine o_y (y_move rfl) rfl rfl ?_
  refine o_callp rfl ent_27 (c_name_Check _) rfl ?_
  refine o_y (y_eql rfl rfl) rfl rfl ?_
  refine wl_splitp (t := 7) rfl (fun h1_2 => ?_) (fun h1_2 => ?_)
  · skip
    refine o_y (y_move rfl) rfl rfl ?_
    refine wl_gyes rfl rfl ?_
    refine o_y (y_move rfl) rfl rfl ?_
    refine wl_gyes rfl rfl ?_
    refine o_callp rfl ent_27 (c_name_Check _) rfl ?_
    refine wl_gyes rfl rfl ?_
    refine o_y (y_eql rfl rfl) rfl rfl ?_
    refine wl_splitp (t := 11) rfl (fun h1_6 => ?_) (fun h1_6 => ?_)
    · skip
      refine o_y (y_pick_t rfl rfl) rfl rfl ?_
      refine o_y (y_move rfl) rfl rfl ?_
      refine wl_gyes rfl rfl ?_
      refine o_y (y_move rfl) rfl rfl ?_
      refine wl_gyes rfl rfl ?_
      refine o_callr1 rfl ent_50 rfl (c_name_Labels _) (fun w hw => rd_nil) (fun ⟨A0, c0⟩ => ?_)
      refine wl_gyes rfl rfl ?_
      refine o_y (y_move rfl) rfl rfl ?_
      refine wl_gyes rfl rfl ?_
      refine o_callr1 rfl ent_50 rfl (c_name_Labels _) (fun w hw => rd_nil) (fun ⟨A1, c1⟩ => ?_)
      refine wl_gyes rfl rfl ?_
      refine o_callq rfl ent_55 rfl (c_EqualFunc_s _ _ _ _ _ _ _ lowS (fun s hs t ht => c_label_Same s t (by have := hla.2.1 s hs; omega) (by have := hlb.2.1 t ht; omega)) ent_56 (by omega)) (fun w hw => (rd_cons (rd_Ls 1 rfl hw) (rd_cons (rd_Ls 0 rfl hw) rd_nil))) ?_
      refine o_y (y_pick_t rfl rfl) rfl rfl ?_
      refine o_y (y_assign rfl) rfl rfl ?_
      refine wl_nil ?_
      refine e_seq ?_
      refine w_ret ?_
      refine e_ret (ts := [4]) rfl rfl rfl (fun w hw => ?_)
      exact ⟨(), by simp only [resV, sameN]; simp [*], hw.base, (hw.weak (List.nil_sublist _) (fun s hs => hs)).toNews⟩
    · skip
      refine o_y (y_pick_t rfl rfl) rfl rfl ?_
      refine o_y (y_move rfl) rfl rfl ?_
      refine wl_gno rfl rfl rfl rfl ?_
      refine wl_gno rfl rfl rfl rfl ?_
      refine wl_gno rfl rfl rfl rfl ?_
      refine wl_gno rfl rfl rfl rfl ?_
      refine wl_gno rfl rfl rfl rfl ?_
      refine o_y (y_pick_f rfl rfl) rfl rfl ?_
      refine o_y (y_assign rfl) rfl rfl ?_
      refine wl_nil ?_
      refine e_seq ?_
      refine w_ret ?_
      refine e_ret (ts := [4]) rfl rfl rfl (fun w hw => ?_)
      exact ⟨(), by simp only [resV, sameN]; simp [*], hw.base, (hw.weak (List.nil_sublist _) (fun s hs => hs)).toNews⟩
  · skip
    refine o_y (y_move rfl) rfl rfl ?_
    refine wl_gno rfl rfl rfl rfl ?_
    refine wl_gno rfl rfl rfl rfl ?_
    refine wl_gno rfl rfl rfl rfl ?_
    refine o_y (y_pick_f rfl rfl) rfl rfl ?_
    refine o_y (y_move rfl) rfl rfl ?_
    refine wl_gno rfl rfl rfl rfl ?_
    refine wl_gno rfl rfl rfl rfl ?_
    refine wl_gno rfl rfl rfl rfl ?_
    refine wl_gno rfl rfl rfl rfl ?_
    refine wl_gno rfl rfl rfl rfl ?_
    refine o_y (y_pick_f rfl rfl) rfl rfl ?_
    refine o_y (y_assign rfl) rfl rfl ?_
    refine wl_nil ?_
    refine e_seq ?_
    refine w_ret ?_
    refine e_ret (ts := [4]) rfl rfl rfl (fun w hw => ?_)
    exact ⟨(), by simp only [resV, sameN]; simp [*], hw.base, (hw.weak (List.nil_sublist _) (fun s hs => hs)).toNews⟩


theorem p_name_Same (a b : Str) (ha : a.length ≤ 1000000000) (hb : b.length ≤ 1000000000) : Pure Try.prog 28 #[.string (ba a), .string (ba b)] (.bool (sameN a b)) := rc_pure (c_name_Same a b ha hb)


theorem c_HashNames  : Pure Try.prog 4 #[] (.bool true) := by
  intro w0
  refine calls_of_WM (ok0 := no) (S := []) (args := []) 33 Try.func4 rfl rfl rfl (by simp) (by simp) ?_
  refine w_seq ?_
  refine w_region ?_
  refine o_y (y_assign rfl) rfl rfl ?_
  refine wl_nil ?_
  refine e_seq ?_
  refine w_seq ?_
  refine w_seq ?_
  refine w_region ?_
  refine o_callp rfl ent_13 c_law13_lives rfl ?_
  refine o_y (y_not rfl) rfl rfl ?_
  refine wl_nil ?_
  refine e_seq ?_
  refine w_cond_f rfl ?_
  refine w_skip ?_
  refine e_seq ?_
  refine w_seq ?_
  refine w_region ?_
  refine o_callr2 rfl ent_19 rfl (c_hash_Probe _ _) (fun w hw => rd_nil) (fun ⟨p0, q0⟩ => ?_)
  refine wl_heap (fun w h => h.freeze.freeze) ?_
  refine o_y (y_assign rfl) rfl rfl ?_
  refine wl_nil ?_
  refine e_seq ?_
  refine w_seq ?_
  refine w_seq ?_
  refine w_region ?_
  refine o_y (y_move rfl) rfl rfl ?_
  refine o_y (y_eqfn Try.underlying32 rfl rfl) rfl rfl ?_
  refine wl_nil ?_
  refine e_seq ?_
  refine w_cond_f rfl ?_
  refine w_skip ?_
  refine e_seq ?_
  refine w_seq ?_
  refine w_region ?_
  refine o_alloc ty_3 rfl rfl (fun b2 => ?_)
  refine o_store ty_3 rfl rfl rfl .z rfl rfl rfl rfl ?_
  refine wl_nil ?_
  refine e_seq ?_
  refine w_seq ?_
  refine w_seq ?_
  refine w_region ?_
  refine o_y (y_move rfl) rfl rfl ?_
  refine wl_nil ?_
  refine e_seq ?_
  refine w_block ?_
  refine w_range (σ := Unit) (fun pre _ => True) (fun c pre _ => False) (fun _ => [Ch.row b2 [.int .i64 0] 3]) (()) rfl rfl ent_53 (c_hash_Probe1 _ _ _ _ (by decide) (by decide) (by decide)) (fun s hs => hs) rfl (fun _ => rfl) (trivial) rfl (fun pre e post _ hxs hI lr D r hr okb wb => ?_) (fun _ D0 hI => ?_) (fun c pre post _ D0 hxs hI => ?_)
  · skip
    exact absurd (congrArg List.length hxs) (by rw [probeL_length]; simp)
  · skip
    refine e_blk ?_
    refine e_seq ?_
    refine w_seq ?_
    refine w_region ?_
    refine o_callp rfl ent_14 (c_hash_Sum _ (by decide)) rfl ?_
    refine o_callp rfl ent_15 (c_hash_More _ _ (by decide)) rfl ?_
    refine o_callp rfl ent_14 (c_hash_Sum _ (by decide)) rfl ?_
    refine o_y (y_eql rfl rfl) rfl rfl ?_
    refine wl_at (t := 15) rfl (by kernel_rfl) ?_
    refine o_y (y_move rfl) rfl rfl ?_
    refine wl_gyes rfl rfl ?_
    refine o_callp rfl ent_16 (c_hash_Name _ (by decide)) rfl ?_
    refine wl_gyes rfl rfl ?_
    refine o_callp rfl ent_14 (c_hash_Sum _ (by decide)) rfl ?_
    refine wl_gyes rfl rfl ?_
    refine o_y (y_eql rfl rfl) rfl rfl ?_
    refine wl_at (t := 19) rfl (by kernel_rfl) ?_
    refine o_y (y_pick_t rfl rfl) rfl rfl ?_
    refine o_y (y_move rfl) rfl rfl ?_
    refine wl_gyes rfl rfl ?_
    refine o_callp rfl ent_18 (c_hash_Slot _ _ (by decide) (by decide) (by decide)) rfl ?_
    refine wl_gyes rfl rfl ?_
    refine o_y (y_eql rfl rfl) rfl rfl ?_
    refine wl_at (t := 23) rfl (by kernel_rfl) ?_
    refine o_y (y_pick_t rfl rfl) rfl rfl ?_
    refine o_y (y_move rfl) rfl rfl ?_
    refine wl_gyes rfl rfl ?_
    refine o_callp rfl ent_18 (c_hash_Slot _ _ (by decide) (by decide) (by decide)) rfl ?_
    refine wl_gyes rfl rfl ?_
    refine o_y (y_eql rfl rfl) rfl rfl ?_
    refine wl_at (t := 27) rfl (by kernel_rfl) ?_
    refine o_y (y_pick_t rfl rfl) rfl rfl ?_
    refine o_y (y_move rfl) rfl rfl ?_
    refine wl_gyes rfl rfl ?_
    refine o_y (y_loadr 1 ty_3 rfl rfl rfl) rfl rfl ?_
    refine wl_gyes rfl rfl ?_
    refine o_y (y_eql rfl rfl) rfl rfl ?_
    refine wl_at (t := 31) rfl rfl ?_
    refine o_y (y_pick_t rfl rfl) rfl rfl ?_
    refine o_y (y_assign rfl) rfl rfl ?_
    refine wl_nil ?_
    refine e_seq ?_
    refine w_ret ?_
    refine e_lvr ?_
    refine lv_take .z ?_
    refine lv_nil (rs := [.tmp 0]) rfl (rs_tmp rfl rs_nil) (fun w hw => ?_)
    exact ⟨rfl, hw.base⟩
  · skip
    exact hI.elim

set_option maxRecDepth 100000 in
theorem c_HashCalls (n s : Str) (sum slots : Int) (hn : n.length ≤ 9223372036854775807) (hs : s.length ≤ 9223372036854775807) (hm1 : 0 ≤ sum) (hm2 : sum ≤ 18446744073709551615) (hl1 : -9223372036854775808 ≤ slots) (hl2 : slots ≤ 9223372036854775807) : Pure Try.prog 5 #[.string (ba n), .string (ba s), .int .u64 sum, .int .i64 slots] (.bool true) := by
  intro w0
  refine calls_of_WM (ok0 := no) (S := []) (args := [.string (ba n), .string (ba s), .int .u64 sum, .int .i64 slots]) 73 Try.func5 rfl rfl rfl (by simp) (by simp) ?_
  refine w_seq ?_
  refine w_region ?_
  refine o_alloc ty_4 rfl rfl (fun b1 => ?_)
  refine wl_nil ?_
  refine e_seq ?_
  refine w_seq ?_
  refine w_seq ?_
  refine w_region ?_
  refine o_callp rfl ent_13 c_law13_lives rfl ?_
  refine o_y (y_not rfl) rfl rfl ?_
  refine wl_nil ?_
  refine e_seq ?_
  refine w_cond_f rfl ?_
  refine w_skip ?_
  refine e_seq ?_
  refine w_seq ?_
  refine w_seq ?_
  refine w_region ?_
  refine o_y (y_move rfl) rfl rfl ?_
  refine o_y (y_lens Try.underlying22 rfl) rfl rfl ?_
  refine o_y (y_gtr rfl rfl) rfl rfl ?_
  refine wl_splitp (t := 16) rfl (fun h3_2 => ?_) (fun h3_2 => ?_)
  · skip
    refine o_y (y_move rfl) rfl rfl ?_
    refine wl_gno rfl rfl rfl rfl ?_
    refine wl_gno rfl rfl rfl rfl ?_
    refine wl_gno rfl rfl rfl rfl ?_
    refine o_y (y_pick_t rfl rfl) rfl rfl ?_
    refine wl_nil ?_
    refine e_seq ?_
    refine w_cond_t rfl ?_
    refine w_seq ?_
    refine w_region ?_
    refine o_store ty_4 rfl rfl rfl .z rfl rfl rfl rfl ?_
    refine wl_nil ?_
    refine e_seq ?_
    refine w_ret ?_
    refine e_seq_ret ?_
    refine e_lvr ?_
    refine lv_nil (rs := [.cell 8 4]) rfl (rs_cell 0 ty_4 rfl rfl rfl rs_nil) (fun w hw => ?_)
    exact ⟨by simp [resV], hw.base⟩
  · skip
    refine o_y (y_move rfl) rfl rfl ?_
    refine wl_gyes rfl rfl ?_
    refine o_y (y_move rfl) rfl rfl ?_
    refine wl_gyes rfl rfl ?_
    refine o_y (y_lens Try.underlying9 rfl) rfl rfl ?_
    refine wl_gyes rfl rfl ?_
    refine o_y (y_gtr rfl rfl) rfl rfl ?_
    refine wl_splitp (t := 20) rfl (fun h3_6 => ?_) (fun h3_6 => ?_)
    · skip
      refine o_y (y_pick_f rfl rfl) rfl rfl ?_
      refine wl_nil ?_
      refine e_seq ?_
      refine w_cond_t rfl ?_
      refine w_seq ?_
      refine w_region ?_
      refine o_store ty_4 rfl rfl rfl .z rfl rfl rfl rfl ?_
      refine wl_nil ?_
      refine e_seq ?_
      refine w_ret ?_
      refine e_seq_ret ?_
      refine e_lvr ?_
      refine lv_nil (rs := [.cell 8 4]) rfl (rs_cell 0 ty_4 rfl rfl rfl rs_nil) (fun w hw => ?_)
      exact ⟨by simp [resV], hw.base⟩
    · skip
      refine o_y (y_pick_f rfl rfl) rfl rfl ?_
      refine wl_nil ?_
      refine e_seq ?_
      refine w_cond_f rfl ?_
      refine w_skip ?_
      refine e_seq ?_
      refine w_seq ?_
      refine w_seq ?_
      refine w_region ?_
      refine o_y (y_move rfl) rfl rfl ?_
      refine o_callp rfl ent_14 (c_hash_Sum _ (by first | omega | (simp only [List.length_nil, List.length_cons, List.length_take, List.length_drop, List.length_append]; omega))) rfl ?_
      refine o_y (y_move rfl) rfl rfl ?_
      refine o_callp rfl ent_20 (c_ref13_Sum _ (by first | omega | (simp only [List.length_nil, List.length_cons, List.length_take, List.length_drop, List.length_append]; omega))) rfl ?_
      refine o_y (y_neq rfl rfl) rfl rfl ?_
      refine wl_af (t := 26) rfl (by simp) ?_
      refine o_y (y_move rfl) rfl rfl ?_
      refine wl_gyes rfl rfl ?_
      refine o_y (y_move rfl) rfl rfl ?_
      refine wl_gyes rfl rfl ?_
      refine o_y (y_move rfl) rfl rfl ?_
      refine wl_gyes rfl rfl ?_
      refine o_callp rfl ent_15 (c_hash_More _ _ (by first | omega | (simp only [List.length_nil, List.length_cons, List.length_take, List.length_drop, List.length_append]; omega))) rfl ?_
      refine wl_gyes rfl rfl ?_
      refine o_y (y_move rfl) rfl rfl ?_
      refine wl_gyes rfl rfl ?_
      refine o_y (y_move rfl) rfl rfl ?_
      refine wl_gyes rfl rfl ?_
      refine o_callp rfl ent_21 (c_ref13_More _ _ (by first | omega | (simp only [List.length_nil, List.length_cons, List.length_take, List.length_drop, List.length_append]; omega))) rfl ?_
      refine wl_gyes rfl rfl ?_
      refine o_y (y_neq rfl rfl) rfl rfl ?_
      refine wl_af (t := 34) rfl (by simp) ?_
      refine o_y (y_pick_f rfl rfl) rfl rfl ?_
      refine o_y (y_move rfl) rfl rfl ?_
      refine wl_gyes rfl rfl ?_
      refine o_y (y_move rfl) rfl rfl ?_
      refine wl_gyes rfl rfl ?_
      refine o_callp rfl ent_16 (c_hash_Name _ (by omega)) rfl ?_
      refine wl_gyes rfl rfl ?_
      refine o_y (y_move rfl) rfl rfl ?_
      refine wl_gyes rfl rfl ?_
      refine o_callp rfl ent_22 (c_ref13_Name _ (by omega)) rfl ?_
      refine wl_gyes rfl rfl ?_
      refine o_y (y_neq rfl rfl) rfl rfl ?_
      refine wl_af (t := 41) rfl (by simp) ?_
      refine o_y (y_pick_f rfl rfl) rfl rfl ?_
      refine o_y (y_move rfl) rfl rfl ?_
      refine wl_gyes rfl rfl ?_
      refine o_y (y_move rfl) rfl rfl ?_
      refine wl_gyes rfl rfl ?_
      refine o_y (y_move rfl) rfl rfl ?_
      refine wl_gyes rfl rfl ?_
      refine o_callp rfl ent_18 (c_hash_Slot _ _ (by omega) (by omega) (by omega)) rfl ?_
      refine wl_gyes rfl rfl ?_
      refine o_y (y_move rfl) rfl rfl ?_
      refine wl_gyes rfl rfl ?_
      refine o_y (y_move rfl) rfl rfl ?_
      refine wl_gyes rfl rfl ?_
      refine o_callp rfl ent_23 (c_ref13_Slot _ _ (by omega) (by omega) (by omega)) rfl ?_
      refine wl_gyes rfl rfl ?_
      refine o_y (y_neq rfl rfl) rfl rfl ?_
      refine wl_af (t := 50) rfl (by simp) ?_
      refine o_y (y_pick_f rfl rfl) rfl rfl ?_
      refine wl_nil ?_
      refine e_seq ?_
      refine w_cond_f rfl ?_
      refine w_skip ?_
      refine e_seq ?_
      refine w_seq ?_
      refine w_seq ?_
      refine w_region ?_
      refine o_y (y_move rfl) rfl rfl ?_
      refine o_y (y_gtr rfl rfl) rfl rfl ?_
      refine wl_splitp (t := 53) rfl (fun h7_1 => ?_) (fun h7_1 => ?_)
      · skip
        refine wl_nil ?_
        refine e_seq ?_
        refine w_cond_t rfl ?_
        refine w_seq ?_
        refine w_region ?_
        refine o_store ty_4 rfl rfl rfl .z rfl rfl rfl rfl ?_
        refine wl_nil ?_
        refine e_seq ?_
        refine w_ret ?_
        refine e_seq_ret ?_
        refine e_lvr ?_
        refine lv_nil (rs := [.cell 8 4]) rfl (rs_cell 0 ty_4 rfl rfl rfl rs_nil) (fun w hw => ?_)
        exact ⟨by simp [resV], hw.base⟩
      · skip
        refine wl_nil ?_
        refine e_seq ?_
        refine w_cond_f rfl ?_
        refine w_skip ?_
        refine e_seq ?_
        refine w_seq ?_
        refine w_region ?_
        refine o_y (y_move rfl) rfl rfl ?_
        refine o_y (y_move rfl) rfl rfl ?_
        refine o_callr2 rfl ent_19 rfl (c_hash_Probe _ _) (fun w hw => rd_nil) (fun ⟨p1, q1⟩ => ?_)
        refine wl_heap (fun w h => h.freeze.freeze) ?_
        refine o_y (y_assign rfl) rfl rfl ?_
        refine wl_nil ?_
        refine e_seq ?_
        refine w_seq ?_
        refine w_seq ?_
        refine w_region ?_
        refine o_y (y_move rfl) rfl rfl ?_
        refine o_y (y_eqfn Try.underlying32 rfl rfl) rfl rfl ?_
        refine wl_nil ?_
        refine e_seq ?_
        refine w_cond_f rfl ?_
        refine w_skip ?_
        refine e_seq ?_
        refine w_seq ?_
        refine w_region ?_
        refine o_alloc ty_34 rfl rfl (fun b3 => ?_)
        refine wl_nil ?_
        refine e_seq ?_
        refine w_seq ?_
        refine w_seq ?_
        refine w_region ?_
        refine o_y (y_move rfl) rfl rfl ?_
        refine wl_nil ?_
        refine e_seq ?_
        refine w_block ?_
        refine w_heap (fun w h => h.nilsl 3 1) ?_
        refine w_range (σ := List Int × Option Addr × Nat) (fun pre g => g.1 = pre) (fun c pre g => False) (fun g => [Ch.ls g.2.1 g.2.2 3 1 enci g.1, Ch.row b3 [.slice g.2.1 g.1.length g.2.2] 34, Ch.row b1 [.bool false] 4]) (([], none, 0)) rfl rfl ent_53 (c_hash_Probe1 n slots _ _ (by omega) (by omega) (by omega)) (fun s hs => hs) rfl (fun _ => rfl) (rfl) rfl (fun pre e post g hxs hI lr D r hr okb wb => ?_) (fun g D0 hI => ?_) (fun c pre post g D0 hxs hI => ?_)
        · skip
          obtain ⟨q, A, c⟩ := g
          dsimp only at hI ⊢
          subst hI
          have hql : q.length < slots.toNat := by have := congrArg List.length hxs; rw [probeL_length] at this; simp at this; omega
          refine w_region ?_
          refine o_y (y_assign rfl) rfl rfl ?_
          refine wl_nil ?_
          refine e_begin rfl hr .z ?_
          refine w_block ?_
          refine w_seq ?_
          refine w_seq ?_
          refine w_region ?_
          refine o_y (y_loadr 3 ty_34 rfl rfl rfl) rfl rfl ?_
          refine o_y (y_lenl Try.underlying34 rfl) rfl rfl ?_
          refine o_y (y_gtr rfl rfl) rfl rfl ?_
          refine wl_af (t := 63) rfl (by have := congrArg List.length hxs; rw [probeL_length] at this; simp at this; omega) ?_
          refine wl_nil ?_
          refine e_seq ?_
          refine w_cond_f rfl ?_
          refine w_skip ?_
          refine e_seq ?_
          refine w_region ?_
          refine o_y (y_loadr 3 ty_34 rfl rfl rfl) rfl rfl ?_
          refine o_y (y_move rfl) rfl rfl ?_
          refine o_bsl (vs := [_]) ([_] : List (Int)) enc_i Try.underlying34 ty_3 rfl rfl rfl rfl rfl rfl (fun As4 => ?_)
          refine o_appm (enc := enci) (sz := 1) _ Try.underlying34 ty_3 rfl rfl rfl (fun A c => (.s (.s (.s (.z))))) (src_L 0 Try.underlying34 rfl) (by simp only [List.length_cons, List.length_nil, Nat.zero_add]; omega) (by simp only [List.length_cons, List.length_nil, Nat.zero_add]; omega) rfl (fun A4 c4 => ?_)
          refine o_store ty_34 rfl rfl rfl (.s (.s (.s (.s (.z))))) rfl rfl rfl rfl ?_
          refine wl_nil ?_
          refine e_blk ?_
          refine e_rend ((q ++ [e], A4, c4)) ?_ (fun w h => h.weak (.cons _ (List.Sublist.refl _)) (fun s hs => hs))
          · rfl
        · skip
          obtain ⟨q, A, c⟩ := g
          dsimp only at hI ⊢
          subst hI
          have hpl := probeL_length n slots
          refine e_blk ?_
          refine e_seq ?_
          refine w_seq ?_
          refine w_draw 5 rfl mixed ?_
          refine a_take (i := 0) rfl wanted_none (y_loadr 2 ty_34 rfl rfl rfl) (fun w h => h) (fun w h => h) rfl (pk_seq pk_fn) (by kernel_rfl) rfl ?_
          refine a_take (i := 1) rfl wanted_none (y_move rfl) (fun w h => h) (fun w h => h) rfl (pk_seq pk_fn) (by kernel_rfl) rfl ?_
          refine a_take (i := 2) rfl wanted_none (y_move rfl) (fun w h => h) (fun w h => h) rfl (pk_seq pk_fn) (by kernel_rfl) rfl ?_
          refine a_one (i := 3) rfl rfl rfl (tame_call rfl ent_25) (by kernel_rfl) rfl ?_
          refine o_callr1 rfl ent_25 rfl (c_ref13_Probe _ _ (by omega) (by omega) (by omega)) (fun w hw => rd_nil) (fun ⟨A5, c5⟩ => ?_)
          refine wl_nil ?_
          refine e_one (fun w h => h.weak (.cons _ (List.Sublist.refl _)) (fun s hs => hs)) ?_
          refine a_one (i := 4) rfl rfl rfl (tame_call rfl ent_24) (by kernel_rfl) rfl ?_
          refine o_callq rfl ent_24 rfl (c_kit_Same_int _ _ _ _ _ _ (by omega)) (fun w hw => (rd_cons (rd_Ls 2 rfl hw) (rd_cons (rd_Ls 0 rfl hw) rd_nil))) ?_
          refine wl_nil ?_
          refine e_one (fun w h => h.weak (.cons _ (List.Sublist.refl _)) (fun s hs => hs)) ?_
          refine a_one (i := 5) rfl rfl rfl (fun _ _ _ => tame_op (by kernel_rfl)) (by kernel_rfl) rfl ?_
          refine o_store ty_4 rfl rfl rfl (.s (.s (.s (.s (.z))))) rfl rfl rfl rfl ?_
          refine wl_nil ?_
          refine e_tail rfl ?_
          refine a_done (by kernel_rfl) ?_
          refine e_seq ?_
          refine w_ret ?_
          refine e_lvr ?_
          refine lv_take (.s (.z)) ?_
          refine lv_nil (rs := [.cell 8 4]) rfl (rs_cell 4 ty_4 rfl rfl rfl rs_nil) (fun w hw => ?_)
          exact ⟨by simp [resV], hw.base⟩
        · skip
          exact hI.elim


theorem okN_low {n : Str} (h : okN n = true) : okN (lowS n) = true := by
  have e := encn_low (labs n) (labs_ok n)
  rw [okN_encn n h] at e
  rw [← e]
  refine (okN_of_encn _ ?_).1
  intro s hs
  obtain ⟨t, ht, rfl⟩ := List.mem_map.1 hs
  rw [lowS_length]; exact labs_ok n t ht
theorem lowS_lowS (s : Str) : lowS (lowS s) = lowS s := by simp [lowS, lowB_lowB]
theorem nameCk_low {n : Str} (h : nameCk n = 0) : nameCk (lowS n) = 0 := by
  obtain ⟨h1, h2⟩ := nameCk_zero.1 h
  exact nameCk_zero.2 ⟨by rw [lowS_length]; exact h1, okN_low h2⟩
theorem foldN_foldN {n : Str} (h : nameCk n = 0) : foldN (foldN n) = foldN n := by
  have e : foldN n = lowS n := if_pos h
  rw [e, foldN, if_pos (nameCk_low h), lowS_lowS]
theorem sumH_cut (s : Str) (c : Nat) : moreH (sumH (s.take c)) (s.drop c) = sumH s := by
  rw [sumH, ← moreH_append, List.take_append_drop]; rfl


set_option maxRecDepth 100000 in
theorem c_HashSame (a b s : Str) (cut slots : Int) (ha : a.length ≤ 9223372036854775807) (hb : b.length ≤ 9223372036854775807) (hs : s.length ≤ 9223372036854775807) (h1 : -9223372036854775808 ≤ slots) (h2 : slots ≤ 9223372036854775807) : Pure Try.prog 7 #[.string (ba a), .string (ba b), .string (ba s), .int .i64 cut, .int .i64 slots] (.bool true) := by
  intro w0
  refine calls_of_W (ok0 := no) (S := []) (args := [.string (ba a), .string (ba b), .string (ba s), .int .i64 cut, .int .i64 slots]) 100 Try.func7 rfl rfl rfl (by simp) (by simp) ?_
  refine w_seq ?_
  refine w_region ?_
  refine o_y (y_assign rfl) rfl rfl ?_
  refine wl_nil ?_
  refine e_seq ?_
  refine w_seq ?_
  refine w_seq ?_
  refine w_region ?_
  refine o_callp rfl ent_13 c_law13_lives rfl ?_
  refine o_y (y_not rfl) rfl rfl ?_
  refine wl_nil ?_
  refine e_seq ?_
  refine w_cond_f rfl ?_
  refine w_skip ?_
  refine e_seq ?_
  refine w_seq ?_
  refine w_seq ?_
  refine w_region ?_
  refine o_y (y_move rfl) rfl rfl ?_
  refine o_y (y_lens Try.underlying22 rfl) rfl rfl ?_
  refine o_y (y_gtr rfl rfl) rfl rfl ?_
  refine wl_splitp (t := 17) rfl (fun h3_2 => ?_) (fun h3_2 => ?_)
  · skip
    refine o_y (y_move rfl) rfl rfl ?_
    refine wl_gno rfl rfl rfl rfl ?_
    refine wl_gno rfl rfl rfl rfl ?_
    refine wl_gno rfl rfl rfl rfl ?_
    refine o_y (y_pick_t rfl rfl) rfl rfl ?_
    refine o_y (y_move rfl) rfl rfl ?_
    refine wl_gno rfl rfl rfl rfl ?_
    refine wl_gno rfl rfl rfl rfl ?_
    refine wl_gno rfl rfl rfl rfl ?_
    refine o_y (y_pick_t rfl rfl) rfl rfl ?_
    refine wl_nil ?_
    refine e_seq ?_
    refine w_cond_t rfl ?_
    refine w_seq ?_
    refine w_region ?_
    refine o_y (y_assign rfl) rfl rfl ?_
    refine wl_nil ?_
    refine e_seq ?_
    refine w_ret ?_
    refine e_seq_ret ?_
    refine e_ret (ts := [10]) rfl rfl rfl (fun w hw => ?_)
    exact ⟨rfl, hw.base⟩
  · skip
    refine o_y (y_move rfl) rfl rfl ?_
    refine wl_gyes rfl rfl ?_
    refine o_y (y_move rfl) rfl rfl ?_
    refine wl_gyes rfl rfl ?_
    refine o_y (y_lens Try.underlying22 rfl) rfl rfl ?_
    refine wl_gyes rfl rfl ?_
    refine o_y (y_gtr rfl rfl) rfl rfl ?_
    refine wl_splitp (t := 21) rfl (fun h3_6 => ?_) (fun h3_6 => ?_)
    · skip
      refine o_y (y_pick_f rfl rfl) rfl rfl ?_
      refine o_y (y_move rfl) rfl rfl ?_
      refine wl_gno rfl rfl rfl rfl ?_
      refine wl_gno rfl rfl rfl rfl ?_
      refine wl_gno rfl rfl rfl rfl ?_
      refine o_y (y_pick_t rfl rfl) rfl rfl ?_
      refine wl_nil ?_
      refine e_seq ?_
      refine w_cond_t rfl ?_
      refine w_seq ?_
      refine w_region ?_
      refine o_y (y_assign rfl) rfl rfl ?_
      refine wl_nil ?_
      refine e_seq ?_
      refine w_ret ?_
      refine e_seq_ret ?_
      refine e_ret (ts := [10]) rfl rfl rfl (fun w hw => ?_)
      exact ⟨rfl, hw.base⟩
    · skip
      refine o_y (y_pick_f rfl rfl) rfl rfl ?_
      refine o_y (y_move rfl) rfl rfl ?_
      refine wl_gyes rfl rfl ?_
      refine o_y (y_move rfl) rfl rfl ?_
      refine wl_gyes rfl rfl ?_
      refine o_y (y_lens Try.underlying9 rfl) rfl rfl ?_
      refine wl_gyes rfl rfl ?_
      refine o_y (y_gtr rfl rfl) rfl rfl ?_
      refine wl_splitp (t := 26) rfl (fun h3_11 => ?_) (fun h3_11 => ?_)
      · skip
        refine o_y (y_pick_f rfl rfl) rfl rfl ?_
        refine wl_nil ?_
        refine e_seq ?_
        refine w_cond_t rfl ?_
        refine w_seq ?_
        refine w_region ?_
        refine o_y (y_assign rfl) rfl rfl ?_
        refine wl_nil ?_
        refine e_seq ?_
        refine w_ret ?_
        refine e_seq_ret ?_
        refine e_ret (ts := [10]) rfl rfl rfl (fun w hw => ?_)
        exact ⟨rfl, hw.base⟩
      · skip
        refine o_y (y_pick_f rfl rfl) rfl rfl ?_
        refine wl_nil ?_
        refine e_seq ?_
        refine w_cond_f rfl ?_
        refine w_skip ?_
        refine e_seq ?_
        refine w_seq ?_
        refine w_region ?_
        refine o_y (y_move rfl) rfl rfl ?_
        refine o_y (y_move rfl) rfl rfl ?_
        refine o_y (y_lens Try.underlying9 rfl) rfl rfl ?_
        refine o_y (y_addi rfl rfl (by omega) (by omega)) rfl rfl ?_
        refine o_callp rfl ent_26 (c_kit_Pick _ _ (by omega) (by omega)) rfl ?_
        refine o_y (y_assign rfl) rfl rfl ?_
        have hpv := pickI_val (n := cut) (m := (s.length : Int) + 1) (by omega)
        obtain ⟨pc, hpc⟩ : ∃ pc : Nat, pickI cut ((s.length : Int) + 1) = pc := ⟨(pickI cut ((s.length : Int) + 1)).toNat, by omega⟩
        refine wl_as (t := 3) (.int .i64 (pc : Int)) rfl (congrArg _ hpc) ?_
        refine wl_nil ?_
        refine e_seq ?_
        refine w_seq ?_
        refine w_region ?_
        refine o_y (y_move rfl) rfl rfl ?_
        refine o_y (y_move rfl) rfl rfl ?_
        refine o_callp rfl ent_18 (c_hash_Slot _ _ (by omega) (by omega) (by omega)) rfl ?_
        refine o_y (y_assign rfl) rfl rfl ?_
        refine wl_nil ?_
        refine e_seq ?_
        refine w_seq ?_
        refine w_seq ?_
        have hsv : 1 ≤ slots → 0 ≤ slotH a slots ∧ slotH a slots < slots := fun h => (slotH_val h h2).2
        have hsz : slots < 1 → slotH a slots = 0 := fun h => if_pos h
        refine w_draw 32 rfl mixed ?_
        refine a_take (i := 0) rfl wanted_none (y_move rfl) (fun w h => h) (fun w h => h) rfl (pk_seq (pk_seq pk_fn)) (by kernel_rfl) rfl ?_
        refine a_take (i := 1) rfl wanted_none (y_lss rfl rfl) (fun w h => h) (fun w h => h) rfl (pk_seq (pk_seq pk_fn)) (by kernel_rfl) rfl ?_
        refine wa_splitp (t := 37) rfl (fun h7_1 => ?_) (fun h7_1 => ?_)
        · skip
          refine a_take (i := 2) rfl wanted_none (y_move rfl) (fun w h => h) (fun w h => h) rfl (pk_seq (pk_seq pk_fn)) (by kernel_rfl) rfl ?_
          refine a_take (i := 3) rfl (wanted_yes rfl rfl) (y_move rfl) (fun w h => h) (fun w h => h) rfl (pk_seq (pk_seq pk_fn)) (by kernel_rfl) rfl ?_
          refine a_take (i := 4) rfl (wanted_yes rfl rfl) (y_neq rfl rfl) (fun w h => h) (fun w h => h) rfl (pk_seq (pk_seq pk_fn)) (by kernel_rfl) rfl ?_
          refine wa_af (t := 40) rfl (fun h => h (hsz h7_1)) ?_
          refine a_take (i := 5) rfl wanted_none (y_pick_t rfl rfl) (fun w h => h) (fun w h => h) rfl (pk_seq (pk_seq pk_fn)) (by kernel_rfl) rfl ?_
          refine a_take (i := 6) rfl wanted_none (y_move rfl) (fun w h => h) (fun w h => h) rfl (pk_seq (pk_seq pk_fn)) (by kernel_rfl) rfl ?_
          refine a_take (i := 7) rfl (wanted_yes rfl rfl) (y_move rfl) (fun w h => h) (fun w h => h) rfl (pk_seq (pk_seq pk_fn)) (by kernel_rfl) rfl ?_
          refine a_take (i := 8) rfl (wanted_yes rfl rfl) (y_geq rfl rfl) (fun w h => h) (fun w h => h) rfl (pk_seq (pk_seq pk_fn)) (by kernel_rfl) rfl ?_
          refine wa_af (t := 44) rfl (by omega) ?_
          refine a_take (i := 9) rfl (wanted_yes rfl rfl) (y_move rfl) (fun w h => h) (fun w h => h) rfl (pk_seq (pk_seq pk_fn)) (by kernel_rfl) rfl ?_
          refine a_skip (i := 10) rfl (wanted_no rfl rfl rfl) (fun w h => h) rfl (pk_seq (pk_seq pk_fn)) (by kernel_rfl) rfl ?_
          refine a_skip (i := 11) rfl (wanted_no rfl rfl rfl) (fun w h => h) rfl (pk_seq (pk_seq pk_fn)) (by kernel_rfl) rfl ?_
          refine a_skip (i := 12) rfl (wanted_no rfl rfl rfl) (fun w h => h) rfl (pk_seq (pk_seq pk_fn)) (by kernel_rfl) rfl ?_
          refine a_skip (i := 13) rfl (wanted_nou rfl rfl) (fun w h => h) rfl (pk_seq (pk_seq pk_fn)) (by kernel_rfl) rfl ?_
          refine a_skip (i := 14) rfl (wanted_nou rfl rfl) (fun w h => h) rfl (pk_seq (pk_seq pk_fn)) (by kernel_rfl) rfl ?_
          refine a_skip (i := 15) rfl (wanted_nou rfl rfl) (fun w h => h) rfl (pk_seq (pk_seq pk_fn)) (by kernel_rfl) rfl ?_
          refine a_skip (i := 16) rfl (wanted_no rfl rfl rfl) (fun w h => h) rfl (pk_seq (pk_seq pk_fn)) (by kernel_rfl) rfl ?_
          refine a_take (i := 17) rfl (wanted_yes rfl rfl) (y_pick_f rfl rfl) (fun w h => h) (fun w h => h) rfl (pk_seq (pk_seq pk_fn)) (by kernel_rfl) rfl ?_
          refine a_take (i := 18) rfl wanted_none (y_pick_f rfl rfl) (fun w h => h) (fun w h => h) rfl (pk_seq (pk_seq pk_fn)) (by kernel_rfl) rfl ?_
          refine a_take (i := 19) rfl wanted_none (y_move rfl) (fun w h => h) (fun w h => h) rfl (pk_seq (pk_seq pk_fn)) (by kernel_rfl) rfl ?_
          refine a_take (i := 20) rfl (wanted_yes rfl rfl) (y_move rfl) (fun w h => h) (fun w h => h) rfl (pk_seq (pk_seq pk_fn)) (by kernel_rfl) rfl ?_
          refine a_take (i := 21) rfl (wanted_yes rfl rfl) (y_move rfl) (fun w h => h) (fun w h => h) rfl (pk_seq (pk_seq pk_fn)) (by kernel_rfl) rfl ?_
          refine a_take (i := 22) rfl (wanted_yes rfl rfl) (y_slices_hi  Try.underlying9 rfl rfl rfl (by omega)) (fun w h => h) (fun w h => h) rfl (pk_seq (pk_seq pk_fn)) (by kernel_rfl) rfl ?_
          refine a_take (i := 24) rfl (wanted_yes rfl rfl) (y_move rfl) (fun w h => h) (fun w h => h) rfl (pk_seq (pk_seq pk_fn)) (by kernel_rfl) rfl ?_
          refine a_take (i := 25) rfl (wanted_yes rfl rfl) (y_move rfl) (fun w h => h) (fun w h => h) rfl (pk_seq (pk_seq pk_fn)) (by kernel_rfl) rfl ?_
          refine a_take (i := 26) rfl (wanted_yes rfl rfl) (y_slices_lo  Try.underlying9 rfl rfl rfl (by omega)) (fun w h => h) (fun w h => h) rfl (pk_seq (pk_seq pk_fn)) (by kernel_rfl) rfl ?_
          refine a_take (i := 28) rfl (wanted_yes rfl rfl) (y_move rfl) (fun w h => h) (fun w h => h) rfl (pk_seq (pk_seq pk_fn)) (by kernel_rfl) rfl ?_
          refine a_one (i := 23) rfl rfl rfl (tame_call rfl ent_14) (by kernel_rfl) rfl ?_
          refine wl_gyes rfl rfl ?_
          refine o_callp rfl ent_14 (c_hash_Sum _ (by first | omega | (simp only [List.length_nil, List.length_cons, List.length_take, List.length_drop, List.length_append]; omega))) rfl ?_
          refine wl_nil ?_
          refine e_one (fun w h => h) ?_
          refine a_one (i := 27) rfl rfl rfl (tame_call rfl ent_15) (by kernel_rfl) rfl ?_
          refine wl_gyes rfl rfl ?_
          refine o_callp rfl ent_15 (c_hash_More _ _ (by first | omega | (simp only [List.length_nil, List.length_cons, List.length_take, List.length_drop, List.length_append]; omega))) rfl ?_
          refine wl_nil ?_
          refine e_one (fun w h => h) ?_
          refine a_one (i := 29) rfl rfl rfl (tame_call rfl ent_14) (by kernel_rfl) rfl ?_
          refine wl_gyes rfl rfl ?_
          refine o_callp rfl ent_14 (c_hash_Sum _ (by first | omega | (simp only [List.length_nil, List.length_cons, List.length_take, List.length_drop, List.length_append]; omega))) rfl ?_
          refine wl_nil ?_
          refine e_one (fun w h => h) ?_
          refine a_take (i := 30) rfl (wanted_yes rfl rfl) (y_neq rfl rfl) (fun w h => h) (fun w h => h) rfl (pk_seq (pk_seq pk_fn)) (by kernel_rfl) rfl ?_
          refine wa_af (t := 66) rfl (by simp [sumH_cut]) ?_
          refine a_take (i := 31) rfl wanted_none (y_pick_f rfl rfl) (fun w h => h) (fun w h => h) rfl (pk_seq (pk_seq pk_fn)) (by kernel_rfl) rfl ?_
          refine a_done (by kernel_rfl) ?_
          refine e_seq ?_
          refine w_cond_f rfl ?_
          refine w_skip ?_
          refine e_seq ?_
          refine w_seq ?_
          refine w_region ?_
          refine o_y (y_move rfl) rfl rfl ?_
          refine o_callp rfl ent_17 (p_name_Fold _ (by omega)) rfl ?_
          refine o_y (y_assign rfl) rfl rfl ?_
          refine wl_nil ?_
          refine e_seq ?_
          refine w_seq ?_
          refine w_region ?_
          refine o_y (y_move rfl) rfl rfl ?_
          refine o_callp rfl ent_27 (c_name_Check _) rfl ?_
          refine o_y (y_neq rfl rfl) rfl rfl ?_
          refine wl_splitp (t := 72) rfl (fun h10_2 => ?_) (fun h10_2 => ?_)
          · skip
            refine o_y (y_move rfl) rfl rfl ?_
            have hfl := foldN_le a (by omega)
            refine wl_gno rfl rfl rfl rfl ?_
            refine wl_gno rfl rfl rfl rfl ?_
            refine wl_gno rfl rfl rfl rfl ?_
            refine wl_gno rfl rfl rfl rfl ?_
            refine wl_gno rfl rfl rfl rfl ?_
            refine wl_gno rfl rfl rfl rfl ?_
            refine wl_gnou rfl rfl rfl ?_
            refine wl_gnou rfl rfl rfl ?_
            refine wl_gnou rfl rfl rfl ?_
            refine wl_gnou rfl rfl rfl ?_
            refine wl_gnou rfl rfl rfl ?_
            refine wl_gnou rfl rfl rfl ?_
            refine wl_gnou rfl rfl rfl ?_
            refine wl_gnou rfl rfl rfl ?_
            refine wl_gnou rfl rfl rfl ?_
            refine wl_gnou rfl rfl rfl ?_
            refine wl_gnou rfl rfl rfl ?_
            refine wl_gnou rfl rfl rfl ?_
            refine wl_gnou rfl rfl rfl ?_
            refine wl_gnou rfl rfl rfl ?_
            refine wl_gnou rfl rfl rfl ?_
            refine wl_gnou rfl rfl rfl ?_
            refine wl_gnou rfl rfl rfl ?_
            refine wl_gnou rfl rfl rfl ?_
            refine wl_gno rfl rfl rfl rfl ?_
            refine o_y (y_pick_t rfl rfl) rfl rfl ?_
            refine o_y (y_assign rfl) rfl rfl ?_
            refine wl_nil ?_
            refine e_seq ?_
            refine w_ret ?_
            refine e_ret (ts := [10]) rfl rfl rfl (fun w hw => ?_)
            exact ⟨rfl, hw.base⟩
          · skip
            refine o_y (y_move rfl) rfl rfl ?_
            have hfl := foldN_le a (by omega)
            refine wl_gyes rfl rfl ?_
            refine o_y (y_move rfl) rfl rfl ?_
            refine wl_gyes rfl rfl ?_
            refine o_callp rfl ent_16 (c_hash_Name _ (by omega)) rfl ?_
            refine wl_gyes rfl rfl ?_
            refine o_y (y_move rfl) rfl rfl ?_
            refine wl_gyes rfl rfl ?_
            refine o_callp rfl ent_16 (c_hash_Name _ (by omega)) rfl ?_
            refine wl_gyes rfl rfl ?_
            refine o_y (y_eql rfl rfl) rfl rfl ?_
            refine wl_at (t := 78) rfl (by show sumH _ = sumH _; rw [foldN_foldN (by omega)]) ?_
            refine wl_gyes rfl rfl ?_
            refine o_y (y_move rfl) rfl rfl ?_
            refine wl_gyes rfl rfl ?_
            refine o_y (y_move rfl) rfl rfl ?_
            refine wl_gyes rfl rfl ?_
            refine o_y (y_move rfl) rfl rfl ?_
            refine wl_gyes rfl rfl ?_
            refine o_callp rfl ent_28 (p_name_Same _ _ (by omega) (by omega)) rfl ?_
            refine wl_splitb (t := 82) rfl (fun h10_12 => ?_) (fun h10_12 => ?_)
            · skip
              refine wl_gyes rfl rfl ?_
              refine o_y (y_not rfl) rfl rfl ?_
              refine wl_gyes rfl rfl ?_
              refine o_y (y_move rfl) rfl rfl ?_
              refine wl_gyes rfl rfl ?_
              refine o_y (y_move rfl) rfl rfl ?_
              refine wl_gyes rfl rfl ?_
              refine o_callp rfl ent_16 (c_hash_Name _ (by omega)) rfl ?_
              refine wl_gyes rfl rfl ?_
              refine o_y (y_move rfl) rfl rfl ?_
              refine wl_gyes rfl rfl ?_
              refine o_callp rfl ent_16 (c_hash_Name _ (by omega)) rfl ?_
              refine wl_gyes rfl rfl ?_
              refine o_y (y_eql rfl rfl) rfl rfl ?_
              refine wl_at (t := 89) rfl (by show sumH _ = sumH _; rw [(sameN_fold h10_12).2.2]) ?_
              refine wl_gyes rfl rfl ?_
              refine o_y (y_move rfl) rfl rfl ?_
              refine wl_gyes rfl rfl ?_
              refine o_y (y_move rfl) rfl rfl ?_
              refine wl_gyes rfl rfl ?_
              refine o_y (y_move rfl) rfl rfl ?_
              refine wl_gyes rfl rfl ?_
              refine o_callp rfl ent_18 (c_hash_Slot _ _ (by omega) (by omega) (by omega)) rfl ?_
              refine wl_gyes rfl rfl ?_
              refine o_y (y_move rfl) rfl rfl ?_
              refine wl_gyes rfl rfl ?_
              refine o_y (y_eql rfl rfl) rfl rfl ?_
              refine wl_at (t := 95) rfl (by have e : nameH b = nameH a := (by show sumH _ = sumH _; rw [(sameN_fold h10_12).2.2]); simp only [slotH, e]) ?_
              refine wl_gyes rfl rfl ?_
              refine o_y (y_pick_t rfl rfl) rfl rfl ?_
              refine wl_gyes rfl rfl ?_
              refine o_y (y_pick_f rfl rfl) rfl rfl ?_
              refine wl_gyes rfl rfl ?_
              refine o_y (y_pick_t rfl rfl) rfl rfl ?_
              refine o_y (y_pick_f rfl rfl) rfl rfl ?_
              refine o_y (y_assign rfl) rfl rfl ?_
              refine wl_nil ?_
              refine e_seq ?_
              refine w_ret ?_
              refine e_ret (ts := [10]) rfl rfl rfl (fun w hw => ?_)
              exact ⟨rfl, hw.base⟩
            · skip
              refine wl_gyes rfl rfl ?_
              refine o_y (y_not rfl) rfl rfl ?_
              refine wl_gyes rfl rfl ?_
              refine o_y (y_move rfl) rfl rfl ?_
              refine wl_gno rfl rfl rfl rfl ?_
              refine wl_gno rfl rfl rfl rfl ?_
              refine wl_gno rfl rfl rfl rfl ?_
              refine wl_gno rfl rfl rfl rfl ?_
              refine wl_gno rfl rfl rfl rfl ?_
              refine wl_gno rfl rfl rfl rfl ?_
              refine wl_gnou rfl rfl rfl ?_
              refine wl_gnou rfl rfl rfl ?_
              refine wl_gnou rfl rfl rfl ?_
              refine wl_gnou rfl rfl rfl ?_
              refine wl_gnou rfl rfl rfl ?_
              refine wl_gno rfl rfl rfl rfl ?_
              refine wl_gyes rfl rfl ?_
              refine o_y (y_pick_t rfl rfl) rfl rfl ?_
              refine wl_gyes rfl rfl ?_
              refine o_y (y_pick_t rfl rfl) rfl rfl ?_
              refine o_y (y_pick_f rfl rfl) rfl rfl ?_
              refine o_y (y_assign rfl) rfl rfl ?_
              refine wl_nil ?_
              refine e_seq ?_
              refine w_ret ?_
              refine e_ret (ts := [10]) rfl rfl rfl (fun w hw => ?_)
              exact ⟨rfl, hw.base⟩
        · skip
          refine a_take (i := 2) rfl wanted_none (y_move rfl) (fun w h => h) (fun w h => h) rfl (pk_seq (pk_seq pk_fn)) (by kernel_rfl) rfl ?_
          refine a_skip (i := 3) rfl (wanted_no rfl rfl rfl) (fun w h => h) rfl (pk_seq (pk_seq pk_fn)) (by kernel_rfl) rfl ?_
          refine a_skip (i := 4) rfl (wanted_no rfl rfl rfl) (fun w h => h) rfl (pk_seq (pk_seq pk_fn)) (by kernel_rfl) rfl ?_
          refine a_take (i := 5) rfl wanted_none (y_pick_f rfl rfl) (fun w h => h) (fun w h => h) rfl (pk_seq (pk_seq pk_fn)) (by kernel_rfl) rfl ?_
          refine a_take (i := 6) rfl wanted_none (y_move rfl) (fun w h => h) (fun w h => h) rfl (pk_seq (pk_seq pk_fn)) (by kernel_rfl) rfl ?_
          refine a_take (i := 7) rfl (wanted_yes rfl rfl) (y_move rfl) (fun w h => h) (fun w h => h) rfl (pk_seq (pk_seq pk_fn)) (by kernel_rfl) rfl ?_
          refine a_take (i := 8) rfl (wanted_yes rfl rfl) (y_geq rfl rfl) (fun w h => h) (fun w h => h) rfl (pk_seq (pk_seq pk_fn)) (by kernel_rfl) rfl ?_
          refine wa_at (t := 44) rfl (by omega) ?_
          refine a_take (i := 9) rfl (wanted_yes rfl rfl) (y_move rfl) (fun w h => h) (fun w h => h) rfl (pk_seq (pk_seq pk_fn)) (by kernel_rfl) rfl ?_
          refine a_take (i := 10) rfl (wanted_yes rfl rfl) (y_move rfl) (fun w h => h) (fun w h => h) rfl (pk_seq (pk_seq pk_fn)) (by kernel_rfl) rfl ?_
          refine a_take (i := 11) rfl (wanted_yes rfl rfl) (y_lss rfl rfl) (fun w h => h) (fun w h => h) rfl (pk_seq (pk_seq pk_fn)) (by kernel_rfl) rfl ?_
          refine wa_af (t := 47) rfl (by have := hsv (by omega); omega) ?_
          refine a_take (i := 12) rfl (wanted_yes rfl rfl) (y_move rfl) (fun w h => h) (fun w h => h) rfl (pk_seq (pk_seq pk_fn)) (by kernel_rfl) rfl ?_
          refine a_take (i := 13) rfl (wanted_yes rfl rfl) (y_move rfl) (fun w h => h) (fun w h => h) rfl (pk_seq (pk_seq pk_fn)) (by kernel_rfl) rfl ?_
          refine a_take (i := 14) rfl (wanted_yes rfl rfl) (y_move rfl) (fun w h => h) (fun w h => h) rfl (pk_seq (pk_seq pk_fn)) (by kernel_rfl) rfl ?_
          refine a_take (i := 15) rfl (wanted_yes rfl rfl) (y_geq rfl rfl) (fun w h => h) (fun w h => h) rfl (pk_seq (pk_seq pk_fn)) (by kernel_rfl) rfl ?_
          refine wa_af (t := 51) rfl (by have := hsv (by omega); omega) ?_
          refine a_take (i := 16) rfl (wanted_yes rfl rfl) (y_pick_f rfl rfl) (fun w h => h) (fun w h => h) rfl (pk_seq (pk_seq pk_fn)) (by kernel_rfl) rfl ?_
          refine a_take (i := 17) rfl (wanted_yes rfl rfl) (y_pick_t rfl rfl) (fun w h => h) (fun w h => h) rfl (pk_seq (pk_seq pk_fn)) (by kernel_rfl) rfl ?_
          refine a_take (i := 18) rfl wanted_none (y_pick_f rfl rfl) (fun w h => h) (fun w h => h) rfl (pk_seq (pk_seq pk_fn)) (by kernel_rfl) rfl ?_
          refine a_take (i := 19) rfl wanted_none (y_move rfl) (fun w h => h) (fun w h => h) rfl (pk_seq (pk_seq pk_fn)) (by kernel_rfl) rfl ?_
          refine a_take (i := 20) rfl (wanted_yes rfl rfl) (y_move rfl) (fun w h => h) (fun w h => h) rfl (pk_seq (pk_seq pk_fn)) (by kernel_rfl) rfl ?_
          refine a_take (i := 21) rfl (wanted_yes rfl rfl) (y_move rfl) (fun w h => h) (fun w h => h) rfl (pk_seq (pk_seq pk_fn)) (by kernel_rfl) rfl ?_
          refine a_take (i := 22) rfl (wanted_yes rfl rfl) (y_slices_hi  Try.underlying9 rfl rfl rfl (by omega)) (fun w h => h) (fun w h => h) rfl (pk_seq (pk_seq pk_fn)) (by kernel_rfl) rfl ?_
          refine a_take (i := 24) rfl (wanted_yes rfl rfl) (y_move rfl) (fun w h => h) (fun w h => h) rfl (pk_seq (pk_seq pk_fn)) (by kernel_rfl) rfl ?_
          refine a_take (i := 25) rfl (wanted_yes rfl rfl) (y_move rfl) (fun w h => h) (fun w h => h) rfl (pk_seq (pk_seq pk_fn)) (by kernel_rfl) rfl ?_
          refine a_take (i := 26) rfl (wanted_yes rfl rfl) (y_slices_lo  Try.underlying9 rfl rfl rfl (by omega)) (fun w h => h) (fun w h => h) rfl (pk_seq (pk_seq pk_fn)) (by kernel_rfl) rfl ?_
          refine a_take (i := 28) rfl (wanted_yes rfl rfl) (y_move rfl) (fun w h => h) (fun w h => h) rfl (pk_seq (pk_seq pk_fn)) (by kernel_rfl) rfl ?_
          refine a_one (i := 23) rfl rfl rfl (tame_call rfl ent_14) (by kernel_rfl) rfl ?_
          refine wl_gyes rfl rfl ?_
          refine o_callp rfl ent_14 (c_hash_Sum _ (by first | omega | (simp only [List.length_nil, List.length_cons, List.length_take, List.length_drop, List.length_append]; omega))) rfl ?_
          refine wl_nil ?_
          refine e_one (fun w h => h) ?_
          refine a_one (i := 27) rfl rfl rfl (tame_call rfl ent_15) (by kernel_rfl) rfl ?_
          refine wl_gyes rfl rfl ?_
          refine o_callp rfl ent_15 (c_hash_More _ _ (by first | omega | (simp only [List.length_nil, List.length_cons, List.length_take, List.length_drop, List.length_append]; omega))) rfl ?_
          refine wl_nil ?_
          refine e_one (fun w h => h) ?_
          refine a_one (i := 29) rfl rfl rfl (tame_call rfl ent_14) (by kernel_rfl) rfl ?_
          refine wl_gyes rfl rfl ?_
          refine o_callp rfl ent_14 (c_hash_Sum _ (by first | omega | (simp only [List.length_nil, List.length_cons, List.length_take, List.length_drop, List.length_append]; omega))) rfl ?_
          refine wl_nil ?_
          refine e_one (fun w h => h) ?_
          refine a_take (i := 30) rfl (wanted_yes rfl rfl) (y_neq rfl rfl) (fun w h => h) (fun w h => h) rfl (pk_seq (pk_seq pk_fn)) (by kernel_rfl) rfl ?_
          refine wa_af (t := 66) rfl (by simp [sumH_cut]) ?_
          refine a_take (i := 31) rfl wanted_none (y_pick_f rfl rfl) (fun w h => h) (fun w h => h) rfl (pk_seq (pk_seq pk_fn)) (by kernel_rfl) rfl ?_
          refine a_done (by kernel_rfl) ?_
          refine e_seq ?_
          refine w_cond_f rfl ?_
          refine w_skip ?_
          refine e_seq ?_
          refine w_seq ?_
          refine w_region ?_
          refine o_y (y_move rfl) rfl rfl ?_
          refine o_callp rfl ent_17 (p_name_Fold _ (by omega)) rfl ?_
          refine o_y (y_assign rfl) rfl rfl ?_
          refine wl_nil ?_
          refine e_seq ?_
          refine w_seq ?_
          refine w_region ?_
          refine o_y (y_move rfl) rfl rfl ?_
          refine o_callp rfl ent_27 (c_name_Check _) rfl ?_
          refine o_y (y_neq rfl rfl) rfl rfl ?_
          refine wl_splitp (t := 72) rfl (fun h10_2 => ?_) (fun h10_2 => ?_)
          · skip
            refine o_y (y_move rfl) rfl rfl ?_
            have hfl := foldN_le a (by omega)
            refine wl_gno rfl rfl rfl rfl ?_
            refine wl_gno rfl rfl rfl rfl ?_
            refine wl_gno rfl rfl rfl rfl ?_
            refine wl_gno rfl rfl rfl rfl ?_
            refine wl_gno rfl rfl rfl rfl ?_
            refine wl_gno rfl rfl rfl rfl ?_
            refine wl_gnou rfl rfl rfl ?_
            refine wl_gnou rfl rfl rfl ?_
            refine wl_gnou rfl rfl rfl ?_
            refine wl_gnou rfl rfl rfl ?_
            refine wl_gnou rfl rfl rfl ?_
            refine wl_gnou rfl rfl rfl ?_
            refine wl_gnou rfl rfl rfl ?_
            refine wl_gnou rfl rfl rfl ?_
            refine wl_gnou rfl rfl rfl ?_
            refine wl_gnou rfl rfl rfl ?_
            refine wl_gnou rfl rfl rfl ?_
            refine wl_gnou rfl rfl rfl ?_
            refine wl_gnou rfl rfl rfl ?_
            refine wl_gnou rfl rfl rfl ?_
            refine wl_gnou rfl rfl rfl ?_
            refine wl_gnou rfl rfl rfl ?_
            refine wl_gnou rfl rfl rfl ?_
            refine wl_gnou rfl rfl rfl ?_
            refine wl_gno rfl rfl rfl rfl ?_
            refine o_y (y_pick_t rfl rfl) rfl rfl ?_
            refine o_y (y_assign rfl) rfl rfl ?_
            refine wl_nil ?_
            refine e_seq ?_
            refine w_ret ?_
            refine e_ret (ts := [10]) rfl rfl rfl (fun w hw => ?_)
            exact ⟨rfl, hw.base⟩
          · skip
            refine o_y (y_move rfl) rfl rfl ?_
            have hfl := foldN_le a (by omega)
            refine wl_gyes rfl rfl ?_
            refine o_y (y_move rfl) rfl rfl ?_
            refine wl_gyes rfl rfl ?_
            refine o_callp rfl ent_16 (c_hash_Name _ (by omega)) rfl ?_
            refine wl_gyes rfl rfl ?_
            refine o_y (y_move rfl) rfl rfl ?_
            refine wl_gyes rfl rfl ?_
            refine o_callp rfl ent_16 (c_hash_Name _ (by omega)) rfl ?_
            refine wl_gyes rfl rfl ?_
            refine o_y (y_eql rfl rfl) rfl rfl ?_
            refine wl_at (t := 78) rfl (by show sumH _ = sumH _; rw [foldN_foldN (by omega)]) ?_
            refine wl_gyes rfl rfl ?_
            refine o_y (y_move rfl) rfl rfl ?_
            refine wl_gyes rfl rfl ?_
            refine o_y (y_move rfl) rfl rfl ?_
            refine wl_gyes rfl rfl ?_
            refine o_y (y_move rfl) rfl rfl ?_
            refine wl_gyes rfl rfl ?_
            refine o_callp rfl ent_28 (p_name_Same _ _ (by omega) (by omega)) rfl ?_
            refine wl_splitb (t := 82) rfl (fun h10_12 => ?_) (fun h10_12 => ?_)
            · skip
              refine wl_gyes rfl rfl ?_
              refine o_y (y_not rfl) rfl rfl ?_
              refine wl_gyes rfl rfl ?_
              refine o_y (y_move rfl) rfl rfl ?_
              refine wl_gyes rfl rfl ?_
              refine o_y (y_move rfl) rfl rfl ?_
              refine wl_gyes rfl rfl ?_
              refine o_callp rfl ent_16 (c_hash_Name _ (by omega)) rfl ?_
              refine wl_gyes rfl rfl ?_
              refine o_y (y_move rfl) rfl rfl ?_
              refine wl_gyes rfl rfl ?_
              refine o_callp rfl ent_16 (c_hash_Name _ (by omega)) rfl ?_
              refine wl_gyes rfl rfl ?_
              refine o_y (y_eql rfl rfl) rfl rfl ?_
              refine wl_at (t := 89) rfl (by show sumH _ = sumH _; rw [(sameN_fold h10_12).2.2]) ?_
              refine wl_gyes rfl rfl ?_
              refine o_y (y_move rfl) rfl rfl ?_
              refine wl_gyes rfl rfl ?_
              refine o_y (y_move rfl) rfl rfl ?_
              refine wl_gyes rfl rfl ?_
              refine o_y (y_move rfl) rfl rfl ?_
              refine wl_gyes rfl rfl ?_
              refine o_callp rfl ent_18 (c_hash_Slot _ _ (by omega) (by omega) (by omega)) rfl ?_
              refine wl_gyes rfl rfl ?_
              refine o_y (y_move rfl) rfl rfl ?_
              refine wl_gyes rfl rfl ?_
              refine o_y (y_eql rfl rfl) rfl rfl ?_
              refine wl_at (t := 95) rfl (by have e : nameH b = nameH a := (by show sumH _ = sumH _; rw [(sameN_fold h10_12).2.2]); simp only [slotH, e]) ?_
              refine wl_gyes rfl rfl ?_
              refine o_y (y_pick_t rfl rfl) rfl rfl ?_
              refine wl_gyes rfl rfl ?_
              refine o_y (y_pick_f rfl rfl) rfl rfl ?_
              refine wl_gyes rfl rfl ?_
              refine o_y (y_pick_t rfl rfl) rfl rfl ?_
              refine o_y (y_pick_f rfl rfl) rfl rfl ?_
              refine o_y (y_assign rfl) rfl rfl ?_
              refine wl_nil ?_
              refine e_seq ?_
              refine w_ret ?_
              refine e_ret (ts := [10]) rfl rfl rfl (fun w hw => ?_)
              exact ⟨rfl, hw.base⟩
            · skip
              refine wl_gyes rfl rfl ?_
              refine o_y (y_not rfl) rfl rfl ?_
              refine wl_gyes rfl rfl ?_
              refine o_y (y_move rfl) rfl rfl ?_
              refine wl_gno rfl rfl rfl rfl ?_
              refine wl_gno rfl rfl rfl rfl ?_
              refine wl_gno rfl rfl rfl rfl ?_
              refine wl_gno rfl rfl rfl rfl ?_
              refine wl_gno rfl rfl rfl rfl ?_
              refine wl_gno rfl rfl rfl rfl ?_
              refine wl_gnou rfl rfl rfl ?_
              refine wl_gnou rfl rfl rfl ?_
              refine wl_gnou rfl rfl rfl ?_
              refine wl_gnou rfl rfl rfl ?_
              refine wl_gnou rfl rfl rfl ?_
              refine wl_gno rfl rfl rfl rfl ?_
              refine wl_gyes rfl rfl ?_
              refine o_y (y_pick_t rfl rfl) rfl rfl ?_
              refine wl_gyes rfl rfl ?_
              refine o_y (y_pick_t rfl rfl) rfl rfl ?_
              refine o_y (y_pick_f rfl rfl) rfl rfl ?_
              refine o_y (y_assign rfl) rfl rfl ?_
              refine wl_nil ?_
              refine e_seq ?_
              refine w_ret ?_
              refine e_ret (ts := [10]) rfl rfl rfl (fun w hw => ?_)
              exact ⟨rfl, hw.base⟩
end Go.Proofs.Ytahpppncjbgpaaa
