/- HashProbes: the walk of its law -/
import Derived.Test.YtahpppncjbgpaaaCe
namespace Go.Proofs.Ytahpppncjbgpaaa
open Go.RowKit Go.Shelf
set_option linter.unusedVariables false
set_option linter.unusedSimpArgs false

theorem ty_38 : TyI Try.prog 38 false 1 24 (.slice none 0 0) := TyI.mk' (by kernel_rfl) (fun _ => by kernel_rfl)


/-- What the law has seen behind k places. -/
def firstH (n : Str) (slots : Int) (k : Nat) : Int := if k = 0 then -1 else atH n slots 0
def lastH (n : Str) (slots : Int) : Nat → Int
  | 0 => -1
  | k + 1 => atH n slots k
def seenL (n : Str) (slots : Int) (k : Nat) : List Bool := (List.range slots.toNat).map fun j : Nat => (List.range k).any fun i => decide (atH n slots i = (j : Int))
theorem seenL_length (n : Str) (slots : Int) (k : Nat) : (seenL n slots k).length = slots.toNat := by simp [seenL]
theorem seenL_zero (n : Str) (slots : Int) : seenL n slots 0 = List.replicate slots.toNat false := by
  apply List.ext_getElem
  · simp [seenL]
  · intro i h1 h2; simp [seenL]
theorem atH_inj {n : Str} {slots : Int} {i k : Nat} (h : i < k) (hk : k < slots.toNat) : atH n slots i ≠ atH n slots k := by
  have hs : ¬ slots < 1 := by omega
  simp only [atH, if_neg hs]
  intro e
  have h1 := Int.emod_emod_of_dvd
  have h2 : (slotH n slots + (k : Int) - (slotH n slots + (i : Int))) % slots = 0 := Int.emod_eq_emod_iff_emod_sub_eq_zero.1 e.symm
  have h3 : slotH n slots + (k : Int) - (slotH n slots + (i : Int)) = ((k - i : Nat) : Int) := by omega
  rw [h3, Int.emod_eq_of_lt (by omega) (by omega)] at h2
  omega
theorem seenL_new {n : Str} {slots : Int} {k : Nat} (hk : k < slots.toNat) : (seenL n slots k).getD (atH n slots k).toNat false = false := by
  have hr := atH_rng (n := n) (slots := slots) (by omega) k
  have hlt : (atH n slots k).toNat < slots.toNat := by omega
  simp only [seenL, List.getD_eq_getElem?_getD, List.getElem?_map, List.getElem?_range hlt, Option.map_some, Option.getD_some]
  rw [List.any_eq_false]
  intro i hi
  have := atH_inj (n := n) (List.mem_range.1 hi) hk
  simp; omega
theorem seenL_succ {n : Str} {slots : Int} {k : Nat} (hk : k < slots.toNat) : (seenL n slots k).set (atH n slots k).toNat true = seenL n slots (k + 1) := by
  have hr := atH_rng (n := n) (slots := slots) (by omega) k
  apply List.ext_getElem
  · simp [seenL]
  · intro j h1 h2
    simp only [List.getElem_set]
    have hj : j < slots.toNat := by simpa [seenL] using h2
    by_cases e : (atH n slots k).toNat = j
    · subst e
      rw [if_pos rfl]
      simp [seenL, List.range_succ]
      right; omega
    · rw [if_neg e]
      simp only [seenL, List.getElem_map, List.getElem_range, List.range_succ, List.any_append, List.any_cons, List.any_nil, Bool.or_false]
      have : decide (atH n slots k = (j : Int)) = false := by simp; omega
      rw [this, Bool.or_false]
theorem firstH_one {n : Str} {slots : Int} {k : Nat} (h : k = 0) : firstH n slots (k + 1) = atH n slots k := by subst h; rfl
theorem firstH_more {n : Str} {slots : Int} {k : Nat} (h : k ≠ 0) : firstH n slots (k + 1) = firstH n slots k := by rw [firstH, firstH, if_neg (by omega), if_neg h]
theorem split_at {α : Type} {xs : List α} {k : Nat} {e : α} {post : List α} (d : α) (h : xs = xs.take k ++ e :: post) : k < xs.length ∧ e = xs.getD k d := by
  have hl := congrArg List.length h
  simp at hl
  have hk : k < xs.length := by omega
  refine ⟨hk, ?_⟩
  have h2 := iter_split xs d k hk
  have h3 := h.symm.trans h2
  exact (List.cons.inj (List.append_cancel_left h3)).1
theorem atH_last {n : Str} {slots : Int} (h : 1 ≤ slots) (k : Nat) : (atH n slots k + 1).tmod slots = atH n slots (k + 1) := by
  have hr := atH_rng (n := n) h k
  rw [Int.tmod_eq_emod_of_nonneg (by omega), atH_succ h k]
  split
  · rename_i e; rw [e]; exact Int.emod_self
  · exact Int.emod_eq_of_lt (by omega) (by omega)
theorem atH_from {n : Str} {slots : Int} (h : 1 ≤ slots) (k : Nat) : (atH n slots 0 + (k : Int)).tmod slots = atH n slots k := by
  have hr := atH_rng (n := n) h 0
  have hs : ¬ slots < 1 := by omega
  rw [Int.tmod_eq_emod_of_nonneg (by omega)]
  simp only [atH, if_neg hs]
  rw [Int.emod_add_emod]; congr 1; simp


set_option maxRecDepth 100000 in
theorem c_HashProbes (n : Str) (slots early : Int) (hn : n.length ≤ 9223372036854775807) (h1 : -9223372036854775808 ≤ slots) (h2 : slots ≤ 9223372036854775807) : Pure Try.prog 6 #[.string (ba n), .int .i64 slots, .int .i64 early] (.bool true) := by
  intro w0
  refine calls_of_WM (ok0 := no) (S := []) (args := [.string (ba n), .int .i64 slots, .int .i64 early]) 103 Try.func6 rfl rfl rfl (by simp) (by simp) ?_
  refine w_seq ?_
  refine w_region ?_
  refine o_box rfl rfl rfl (fun b1 => ?_)
  refine o_box rfl rfl rfl (fun b2 => ?_)
  refine o_alloc ty_4 rfl rfl (fun b3 => ?_)
  refine wl_nil ?_
  refine e_seq ?_
  refine w_seq ?_
  refine w_seq ?_
  refine w_region ?_
  refine o_callp rfl ent_13 c_law13_lives rfl ?_
  refine o_y (y_not rfl) rfl rfl ?_
  refine wl_nil ?_
  refine e_seq ?_
  refine w_cond_f rfl ?_
  refine w_skip ?_
  refine e_seq ?_
  refine w_seq ?_
  refine w_seq ?_
  refine w_region ?_
  refine o_y (y_move rfl) rfl rfl ?_
  refine o_y (y_lens Try.underlying22 rfl) rfl rfl ?_
  refine o_y (y_gtr rfl rfl) rfl rfl ?_
  refine wl_splitp (t := 19) rfl (fun h3_2 => ?_) (fun h3_2 => ?_)
  · skip
    refine o_y (y_move rfl) rfl rfl ?_
    refine wl_gno rfl rfl rfl rfl ?_
    refine wl_gno rfl rfl rfl rfl ?_
    refine o_y (y_pick_t rfl rfl) rfl rfl ?_
    refine o_y (y_move rfl) rfl rfl ?_
    refine wl_gno rfl rfl rfl rfl ?_
    refine wl_gno rfl rfl rfl rfl ?_
    refine o_y (y_pick_t rfl rfl) rfl rfl ?_
    refine wl_nil ?_
    refine e_seq ?_
    refine w_cond_t rfl ?_
    refine w_seq ?_
    refine w_region ?_
    refine o_store ty_4 rfl rfl rfl .z rfl rfl rfl rfl ?_
    refine wl_nil ?_
    refine e_seq ?_
    refine w_ret ?_
    refine e_seq_ret ?_
    refine e_lvr ?_
    refine lv_nil (rs := [.cell 6 4]) rfl (rs_cell 0 ty_4 rfl rfl rfl rs_nil) (fun w hw => ?_)
    exact ⟨rfl, hw.base⟩
  · skip
    refine o_y (y_move rfl) rfl rfl ?_
    refine wl_gyes rfl rfl ?_
    refine o_y (y_loadr 2 ty_3 rfl rfl rfl) rfl rfl ?_
    refine wl_gyes rfl rfl ?_
    refine o_y (y_lss rfl rfl) rfl rfl ?_
    refine wl_splitp (t := 22) rfl (fun h3_5 => ?_) (fun h3_5 => ?_)
    · skip
      refine o_y (y_pick_f rfl rfl) rfl rfl ?_
      refine o_y (y_move rfl) rfl rfl ?_
      refine wl_gno rfl rfl rfl rfl ?_
      refine wl_gno rfl rfl rfl rfl ?_
      refine o_y (y_pick_t rfl rfl) rfl rfl ?_
      refine wl_nil ?_
      refine e_seq ?_
      refine w_cond_t rfl ?_
      refine w_seq ?_
      refine w_region ?_
      refine o_store ty_4 rfl rfl rfl .z rfl rfl rfl rfl ?_
      refine wl_nil ?_
      refine e_seq ?_
      refine w_ret ?_
      refine e_seq_ret ?_
      refine e_lvr ?_
      refine lv_nil (rs := [.cell 6 4]) rfl (rs_cell 0 ty_4 rfl rfl rfl rs_nil) (fun w hw => ?_)
      exact ⟨rfl, hw.base⟩
    · skip
      refine o_y (y_pick_f rfl rfl) rfl rfl ?_
      refine o_y (y_move rfl) rfl rfl ?_
      refine wl_gyes rfl rfl ?_
      refine o_y (y_loadr 2 ty_3 rfl rfl rfl) rfl rfl ?_
      refine wl_gyes rfl rfl ?_
      refine o_y (y_gtr rfl rfl) rfl rfl ?_
      refine wl_splitp (t := 26) rfl (fun h3_9 => ?_) (fun h3_9 => ?_)
      · skip
        refine o_y (y_pick_f rfl rfl) rfl rfl ?_
        refine wl_nil ?_
        refine e_seq ?_
        refine w_cond_t rfl ?_
        refine w_seq ?_
        refine w_region ?_
        refine o_store ty_4 rfl rfl rfl .z rfl rfl rfl rfl ?_
        refine wl_nil ?_
        refine e_seq ?_
        refine w_ret ?_
        refine e_seq_ret ?_
        refine e_lvr ?_
        refine lv_nil (rs := [.cell 6 4]) rfl (rs_cell 0 ty_4 rfl rfl rfl rs_nil) (fun w hw => ?_)
        exact ⟨rfl, hw.base⟩
      · skip
        refine o_y (y_pick_f rfl rfl) rfl rfl ?_
        refine wl_nil ?_
        refine e_seq ?_
        refine w_cond_f rfl ?_
        refine w_skip ?_
        refine e_seq ?_
        refine w_seq ?_
        refine w_region ?_
        refine o_y (y_move rfl) rfl rfl ?_
        refine o_y (y_loadr 2 ty_3 rfl rfl rfl) rfl rfl ?_
        refine o_callr2 rfl ent_19 rfl (c_hash_Probe _ _) (fun w hw => rd_nil) (fun ⟨p3, q3⟩ => ?_)
        refine wl_heap (fun w h => h.freeze.freeze) ?_
        refine o_y (y_assign rfl) rfl rfl ?_
        refine wl_nil ?_
        refine e_seq ?_
        refine w_seq ?_
        refine w_seq ?_
        refine w_region ?_
        refine o_y (y_move rfl) rfl rfl ?_
        refine o_y (y_eqfn Try.underlying32 rfl rfl) rfl rfl ?_
        refine wl_nil ?_
        refine e_seq ?_
        refine w_cond_f rfl ?_
        refine w_skip ?_
        refine e_seq ?_
        refine w_seq ?_
        refine w_region ?_
        refine o_y (y_loadr 2 ty_3 rfl rfl rfl) rfl rfl ?_
        refine o_make1 (k := slots.toNat) false enc_B Try.underlying38 ty_4 rfl rfl rfl rfl (by omega) (by omega) (by omega) rfl (fun As5 => ?_)
        refine o_alloc ty_38 rfl rfl (fun b6 => ?_)
        refine o_store ty_38 rfl rfl rfl .z rfl rfl rfl rfl ?_
        refine wl_nil ?_
        refine e_seq ?_
        refine w_seq ?_
        refine w_region ?_
        refine o_alloc ty_3 rfl rfl (fun b7 => ?_)
        refine o_alloc ty_3 rfl rfl (fun b8 => ?_)
        refine o_alloc ty_3 rfl rfl (fun b9 => ?_)
        refine o_store ty_3 rfl rfl rfl (.s (.s (.z))) rfl rfl rfl rfl ?_
        refine o_store ty_3 rfl rfl rfl (.s (.z)) rfl rfl rfl rfl ?_
        refine o_store ty_3 rfl rfl rfl .z rfl rfl rfl rfl ?_
        refine wl_nil ?_
        refine e_seq ?_
        refine w_seq ?_
        refine w_seq ?_
        refine w_region ?_
        refine o_y (y_move rfl) rfl rfl ?_
        refine wl_nil ?_
        refine e_seq ?_
        refine w_block ?_
        refine w_range (σ := Nat) (fun pre k => pre = (probeL n slots).take k ∧ k ≤ slots.toNat) (fun c pre k => False) (fun k => [Ch.row b9 [.int .i64 (lastH n slots k)] 3, Ch.row b8 [.int .i64 ((k : Int))] 3, Ch.row b7 [.int .i64 (firstH n slots k)] 3, Ch.row b6 [.slice As5 (seenL n slots k).length slots.toNat] 38, Ch.ls As5 slots.toNat 4 1 encB (seenL n slots k), Ch.row b3 [.bool false] 4, Ch.row b2 [.int .i64 early] 3, Ch.row b1 [.int .i64 slots] 3]) (0) rfl rfl ent_53 (c_hash_Probe1 n slots _ _ (by omega) (by omega) (by omega)) (fun s hs => hs) rfl (fun _ => rfl) (⟨rfl, Nat.zero_le _⟩) (by rw [seenL_zero]; rfl) (fun pre e post k hxs hI lr D r hr okb wb => ?_) (fun k D0 hI => ?_) (fun c pre post k D0 hxs hI => ?_)
        · skip
          obtain ⟨hpre, hkle⟩ := hI
          rw [hpre] at hxs
          have hsp := split_at 0 hxs
          obtain ⟨hkl, he⟩ := hsp
          rw [probeL_length] at hkl
          rw [probeL_getD n slots k hkl] at he
          subst he
          have har := atH_rng (n := n) (slots := slots) (by omega) k
          have hsl := seenL_length n slots k
          have hpt := probeL_take n slots k hkl
          have e2 : (seenL n slots (k + 1)).length = (seenL n slots k).length := by rw [seenL_length, seenL_length]
          refine w_region ?_
          refine o_y (y_assign rfl) rfl rfl ?_
          refine wl_nil ?_
          refine e_begin rfl hr .z ?_
          refine w_block ?_
          refine w_seq ?_
          refine w_seq ?_
          refine w_region ?_
          refine o_y (y_move rfl) rfl rfl ?_
          refine o_y (y_lss rfl rfl) rfl rfl ?_
          refine wl_af (t := 38) rfl (by omega) ?_
          refine o_y (y_move rfl) rfl rfl ?_
          refine wl_gyes rfl rfl ?_
          refine o_y (y_move rfl) rfl rfl ?_
          refine wl_gyes rfl rfl ?_
          refine o_y (y_loadr 9 ty_3 rfl rfl rfl) rfl rfl ?_
          refine wl_gyes rfl rfl ?_
          refine o_y (y_geq rfl rfl) rfl rfl ?_
          refine wl_af (t := 42) rfl (by omega) ?_
          refine o_y (y_pick_f rfl rfl) rfl rfl ?_
          refine o_y (y_move rfl) rfl rfl ?_
          refine wl_gyes rfl rfl ?_
          refine o_y (y_loadr 5 ty_38 rfl rfl rfl) rfl rfl ?_
          refine wl_gyes rfl rfl ?_
          refine o_y (y_move rfl) rfl rfl ?_
          refine wl_gyes rfl rfl ?_
          refine o_y (y_ixm (k := (atH n slots k).toNat) Try.underlying38 ty_4 rfl rfl (rs_L 6 rfl) (by omega) (by rw [hsl]; omega)) rfl rfl ?_
          refine wl_gyes rfl rfl ?_
          refine o_y (y_ldm0 enc_B false ty_4 rfl (rs_L 6 rfl) (by rw [hsl]; omega) rfl rfl) rfl rfl ?_
          refine wl_as (t := 48) (.bool false) rfl (congrArg Value.bool (seenL_new hkl)) ?_
          refine o_y (y_pick_f rfl rfl) rfl rfl ?_
          refine o_y (y_move rfl) rfl rfl ?_
          refine wl_gyes rfl rfl ?_
          refine o_y (y_loadr 3 ty_3 rfl rfl rfl) rfl rfl ?_
          refine wl_gyes rfl rfl ?_
          refine o_y (y_gtr rfl rfl) rfl rfl ?_
          refine wl_splitp (t := 52) rfl (fun h12_15 => ?_) (fun h12_15 => ?_)
          · skip
            obtain ⟨m, hm⟩ : ∃ m, k = m + 1 := ⟨k - 1, by omega⟩
            have hll : lastH n slots k = atH n slots m := by rw [hm]; rfl
            have hmr := atH_rng (n := n) (slots := slots) (by omega) m
            refine wl_gyes rfl rfl ?_
            refine o_y (y_move rfl) rfl rfl ?_
            refine wl_gyes rfl rfl ?_
            refine o_y (y_move rfl) rfl rfl ?_
            refine wl_gyes rfl rfl ?_
            refine o_y (y_loadr 2 ty_3 rfl rfl rfl) rfl rfl ?_
            refine wl_gyes rfl rfl ?_
            refine o_y (y_addi rfl rfl (by omega) (by omega)) rfl rfl ?_
            refine wl_gyes rfl rfl ?_
            refine o_y (y_loadr 9 ty_3 rfl rfl rfl) rfl rfl ?_
            refine wl_gyes rfl rfl ?_
            refine o_y (y_rem rfl rfl (by omega)) rfl rfl ?_
            refine wl_gyes rfl rfl ?_
            refine o_y (y_neq rfl rfl) rfl rfl ?_
            refine wl_af (t := 59) rfl (by rw [hll, atH_last (by omega) m, ← hm]; simp) ?_
            refine wl_gyes rfl rfl ?_
            refine o_y (y_pick_t rfl rfl) rfl rfl ?_
            refine o_y (y_pick_f rfl rfl) rfl rfl ?_
            refine wl_nil ?_
            refine e_seq ?_
            refine w_cond_f rfl ?_
            refine w_skip ?_
            refine e_seq ?_
            refine w_seq ?_
            refine w_seq ?_
            refine w_region ?_
            refine o_y (y_loadr 3 ty_3 rfl rfl rfl) rfl rfl ?_
            refine o_y (y_eql rfl rfl) rfl rfl ?_
            refine wl_splitp (t := 63) rfl (fun h14_1 => ?_) (fun h14_1 => ?_)
            · skip
              have e1 := firstH_one (n := n) (slots := slots) (k := k) (by omega)
              refine wl_nil ?_
              refine e_seq ?_
              refine w_cond_t rfl ?_
              refine w_region ?_
              refine o_y (y_move rfl) rfl rfl ?_
              refine o_store ty_3 rfl rfl rfl (.s (.s (.s (.s (.z))))) rfl rfl rfl rfl ?_
              refine wl_nil ?_
              refine e_seq ?_
              refine w_seq ?_
              refine w_region ?_
              refine o_y (y_loadr 5 ty_38 rfl rfl rfl) rfl rfl ?_
              refine o_y (y_move rfl) rfl rfl ?_
              refine o_y (y_move rfl) rfl rfl ?_
              refine o_y (y_ixm (k := (atH n slots k).toNat) Try.underlying38 ty_4 rfl rfl (rs_L 6 rfl) (by omega) (by omega)) rfl rfl ?_
              refine o_stm0 enc_B false _ ty_4 rfl rfl rfl (.s (.s (.s (.s (.s (.s (.z))))))) rfl (by omega) rfl rfl rfl ?_
              refine o_store ty_3 rfl rfl rfl (.s (.s (.z))) rfl rfl rfl rfl ?_
              refine wl_nil ?_
              refine e_seq ?_
              refine w_region ?_
              refine o_y (y_loadr 3 ty_3 rfl rfl rfl) rfl rfl ?_
              refine o_y (y_addi rfl rfl (by omega) (by omega)) rfl rfl ?_
              refine o_store ty_3 rfl rfl rfl (.s (.s (.s (.z)))) rfl rfl rfl rfl ?_
              refine wl_nil ?_
              refine e_blk ?_
              refine e_rend (k + 1) ?_ (fun w h => by show Hp _ _ (_ :: _ :: Ch.row b9 [.int .i64 (atH n slots k)] _ :: _ :: Ch.row b7 [.int .i64 (firstH n slots (k + 1))] _ :: Ch.row b6 [.slice As5 (seenL n slots (k + 1)).length _] _ :: Ch.ls _ _ _ _ _ (seenL n slots (k + 1)) :: _) _ _; rw [e2, ← seenL_succ hkl, e1]; exact h)
              · exact ⟨by rw [hpre]; exact hpt.symm, hkl⟩
            · skip
              have e1 := firstH_more (n := n) (slots := slots) (k := k) (by omega)
              refine wl_nil ?_
              refine e_seq ?_
              refine w_cond_f rfl ?_
              refine w_skip ?_
              refine e_seq ?_
              refine w_seq ?_
              refine w_region ?_
              refine o_y (y_loadr 5 ty_38 rfl rfl rfl) rfl rfl ?_
              refine o_y (y_move rfl) rfl rfl ?_
              refine o_y (y_move rfl) rfl rfl ?_
              refine o_y (y_ixm (k := (atH n slots k).toNat) Try.underlying38 ty_4 rfl rfl (rs_L 6 rfl) (by omega) (by omega)) rfl rfl ?_
              refine o_stm0 enc_B false _ ty_4 rfl rfl rfl (.s (.s (.s (.s (.s (.s (.z))))))) rfl (by omega) rfl rfl rfl ?_
              refine o_store ty_3 rfl rfl rfl (.s (.s (.z))) rfl rfl rfl rfl ?_
              refine wl_nil ?_
              refine e_seq ?_
              refine w_region ?_
              refine o_y (y_loadr 3 ty_3 rfl rfl rfl) rfl rfl ?_
              refine o_y (y_addi rfl rfl (by omega) (by omega)) rfl rfl ?_
              refine o_store ty_3 rfl rfl rfl (.s (.s (.s (.z)))) rfl rfl rfl rfl ?_
              refine wl_nil ?_
              refine e_blk ?_
              refine e_rend (k + 1) ?_ (fun w h => by show Hp _ _ (_ :: _ :: Ch.row b9 [.int .i64 (atH n slots k)] _ :: _ :: Ch.row b7 [.int .i64 (firstH n slots (k + 1))] _ :: Ch.row b6 [.slice As5 (seenL n slots (k + 1)).length _] _ :: Ch.ls _ _ _ _ _ (seenL n slots (k + 1)) :: _) _ _; rw [e2, ← seenL_succ hkl, e1]; exact h)
              · exact ⟨by rw [hpre]; exact hpt.symm, hkl⟩
          · skip
            refine wl_gyes rfl rfl ?_
            refine o_y (y_move rfl) rfl rfl ?_
            refine wl_gno rfl rfl rfl rfl ?_
            refine wl_gno rfl rfl rfl rfl ?_
            refine wl_gno rfl rfl rfl rfl ?_
            refine wl_gno rfl rfl rfl rfl ?_
            refine wl_gno rfl rfl rfl rfl ?_
            refine wl_gno rfl rfl rfl rfl ?_
            refine wl_gyes rfl rfl ?_
            refine o_y (y_pick_f rfl rfl) rfl rfl ?_
            refine o_y (y_pick_f rfl rfl) rfl rfl ?_
            refine wl_nil ?_
            refine e_seq ?_
            refine w_cond_f rfl ?_
            refine w_skip ?_
            refine e_seq ?_
            refine w_seq ?_
            refine w_seq ?_
            refine w_region ?_
            refine o_y (y_loadr 3 ty_3 rfl rfl rfl) rfl rfl ?_
            refine o_y (y_eql rfl rfl) rfl rfl ?_
            refine wl_splitp (t := 63) rfl (fun h14_1 => ?_) (fun h14_1 => ?_)
            · skip
              have e1 := firstH_one (n := n) (slots := slots) (k := k) (by omega)
              refine wl_nil ?_
              refine e_seq ?_
              refine w_cond_t rfl ?_
              refine w_region ?_
              refine o_y (y_move rfl) rfl rfl ?_
              refine o_store ty_3 rfl rfl rfl (.s (.s (.s (.s (.z))))) rfl rfl rfl rfl ?_
              refine wl_nil ?_
              refine e_seq ?_
              refine w_seq ?_
              refine w_region ?_
              refine o_y (y_loadr 5 ty_38 rfl rfl rfl) rfl rfl ?_
              refine o_y (y_move rfl) rfl rfl ?_
              refine o_y (y_move rfl) rfl rfl ?_
              refine o_y (y_ixm (k := (atH n slots k).toNat) Try.underlying38 ty_4 rfl rfl (rs_L 6 rfl) (by omega) (by omega)) rfl rfl ?_
              refine o_stm0 enc_B false _ ty_4 rfl rfl rfl (.s (.s (.s (.s (.s (.s (.z))))))) rfl (by omega) rfl rfl rfl ?_
              refine o_store ty_3 rfl rfl rfl (.s (.s (.z))) rfl rfl rfl rfl ?_
              refine wl_nil ?_
              refine e_seq ?_
              refine w_region ?_
              refine o_y (y_loadr 3 ty_3 rfl rfl rfl) rfl rfl ?_
              refine o_y (y_addi rfl rfl (by omega) (by omega)) rfl rfl ?_
              refine o_store ty_3 rfl rfl rfl (.s (.s (.s (.z)))) rfl rfl rfl rfl ?_
              refine wl_nil ?_
              refine e_blk ?_
              refine e_rend (k + 1) ?_ (fun w h => by show Hp _ _ (_ :: _ :: Ch.row b9 [.int .i64 (atH n slots k)] _ :: _ :: Ch.row b7 [.int .i64 (firstH n slots (k + 1))] _ :: Ch.row b6 [.slice As5 (seenL n slots (k + 1)).length _] _ :: Ch.ls _ _ _ _ _ (seenL n slots (k + 1)) :: _) _ _; rw [e2, ← seenL_succ hkl, e1]; exact h)
              · exact ⟨by rw [hpre]; exact hpt.symm, hkl⟩
            · skip
              have e1 := firstH_more (n := n) (slots := slots) (k := k) (by omega)
              refine wl_nil ?_
              refine e_seq ?_
              refine w_cond_f rfl ?_
              refine w_skip ?_
              refine e_seq ?_
              refine w_seq ?_
              refine w_region ?_
              refine o_y (y_loadr 5 ty_38 rfl rfl rfl) rfl rfl ?_
              refine o_y (y_move rfl) rfl rfl ?_
              refine o_y (y_move rfl) rfl rfl ?_
              refine o_y (y_ixm (k := (atH n slots k).toNat) Try.underlying38 ty_4 rfl rfl (rs_L 6 rfl) (by omega) (by omega)) rfl rfl ?_
              refine o_stm0 enc_B false _ ty_4 rfl rfl rfl (.s (.s (.s (.s (.s (.s (.z))))))) rfl (by omega) rfl rfl rfl ?_
              refine o_store ty_3 rfl rfl rfl (.s (.s (.z))) rfl rfl rfl rfl ?_
              refine wl_nil ?_
              refine e_seq ?_
              refine w_region ?_
              refine o_y (y_loadr 3 ty_3 rfl rfl rfl) rfl rfl ?_
              refine o_y (y_addi rfl rfl (by omega) (by omega)) rfl rfl ?_
              refine o_store ty_3 rfl rfl rfl (.s (.s (.s (.z)))) rfl rfl rfl rfl ?_
              refine wl_nil ?_
              refine e_blk ?_
              refine e_rend (k + 1) ?_ (fun w h => by show Hp _ _ (_ :: _ :: Ch.row b9 [.int .i64 (atH n slots k)] _ :: _ :: Ch.row b7 [.int .i64 (firstH n slots (k + 1))] _ :: Ch.row b6 [.slice As5 (seenL n slots (k + 1)).length _] _ :: Ch.ls _ _ _ _ _ (seenL n slots (k + 1)) :: _) _ _; rw [e2, ← seenL_succ hkl, e1]; exact h)
              · exact ⟨by rw [hpre]; exact hpt.symm, hkl⟩
        · skip
          obtain ⟨hpre, hkle⟩ := hI
          have hk : k = slots.toNat := by have := congrArg List.length hpre; simp [probeL_length] at this; omega
          subst hk
          have hpv := pickI_val (n := early) (m := slots) (by omega)
          refine e_blk ?_
          refine e_seq ?_
          refine w_seq ?_
          refine w_region ?_
          refine o_y (y_loadr 7 ty_3 rfl rfl rfl) rfl rfl ?_
          refine o_y (y_loadr 8 ty_3 rfl rfl rfl) rfl rfl ?_
          refine o_callp rfl ent_26 (c_kit_Pick _ _ (by omega) (by omega)) rfl ?_
          refine o_store ty_3 rfl rfl rfl (.s (.s (.s (.s (.s (.s (.s (.z)))))))) rfl rfl rfl rfl ?_
          refine wl_nil ?_
          refine e_seq ?_
          refine w_seq ?_
          refine w_region ?_
          refine o_alloc ty_3 rfl rfl (fun b10 => ?_)
          refine o_store ty_3 rfl rfl rfl .z rfl rfl rfl rfl ?_
          refine wl_nil ?_
          refine e_seq ?_
          refine w_seq ?_
          refine w_seq ?_
          refine w_region ?_
          refine o_y (y_move rfl) rfl rfl ?_
          refine wl_nil ?_
          refine e_seq ?_
          refine w_block ?_
          refine w_range (σ := Nat) (fun pre j => pre = (probeL n slots).take j ∧ (j : Int) ≤ pickI early slots) (fun c pre j => c = .exit 2 ∧ (j : Int) = pickI early slots) (fun j => [Ch.row b10 [.int .i64 (j : Int)] 3, Ch.obj D0 (.deferred (some [])), Ch.row b9 [.int .i64 (lastH n slots slots.toNat)] 3, Ch.row b8 [.int .i64 ((slots.toNat : Int))] 3, Ch.row b7 [.int .i64 (firstH n slots slots.toNat)] 3, Ch.row b6 [.slice As5 (seenL n slots slots.toNat).length slots.toNat] 38, Ch.ls As5 slots.toNat 4 1 encB (seenL n slots slots.toNat), Ch.row b3 [.bool false] 4, Ch.row b2 [.int .i64 (pickI early slots)] 3, Ch.row b1 [.int .i64 slots] 3]) (0) rfl rfl ent_53 (c_hash_Probe1 n slots _ _ (by omega) (by omega) (by omega)) (fun s hs => hs) rfl (fun _ => rfl) (⟨rfl, by omega⟩) rfl (fun pre e post j hxs hI lr D r hr okb wb => ?_) (fun j D1 hI => ?_) (fun c pre post j D1 hxs hI => ?_)
          · skip
            obtain ⟨hpre, hjle⟩ := hI
            rw [hpre] at hxs
            have hsp := split_at 0 hxs
            obtain ⟨hkl, he⟩ := hsp
            rw [probeL_length] at hkl
            rw [probeL_getD n slots j hkl] at he
            subst he
            have har := atH_rng (n := n) (slots := slots) (by omega) 0
            have hpt := probeL_take n slots j hkl
            have hf0 : firstH n slots slots.toNat = atH n slots 0 := if_neg (by omega)
            refine w_region ?_
            refine o_y (y_assign rfl) rfl rfl ?_
            refine wl_nil ?_
            refine e_begin rfl hr .z ?_
            refine w_block ?_
            refine w_seq ?_
            refine w_seq ?_
            refine w_region ?_
            refine o_y (y_move rfl) rfl rfl ?_
            refine o_y (y_loadr 6 ty_3 rfl rfl rfl) rfl rfl ?_
            refine o_y (y_loadr 2 ty_3 rfl rfl rfl) rfl rfl ?_
            refine o_y (y_addi rfl rfl (by omega) (by omega)) rfl rfl ?_
            refine o_y (y_loadr 11 ty_3 rfl rfl rfl) rfl rfl ?_
            refine o_y (y_rem rfl rfl (by omega)) rfl rfl ?_
            refine o_y (y_neq rfl rfl) rfl rfl ?_
            refine wl_af (t := 82) rfl (by rw [hf0, atH_from (by omega) j]; simp) ?_
            refine wl_nil ?_
            refine e_seq ?_
            refine w_cond_f rfl ?_
            refine w_skip ?_
            refine e_seq ?_
            refine w_seq ?_
            refine w_seq ?_
            refine w_region ?_
            refine o_y (y_loadr 2 ty_3 rfl rfl rfl) rfl rfl ?_
            refine o_y (y_loadr 10 ty_3 rfl rfl rfl) rfl rfl ?_
            refine o_y (y_eql rfl rfl) rfl rfl ?_
            refine wl_splitp (t := 85) rfl (fun h24_2 => ?_) (fun h24_2 => ?_)
            · skip
              refine wl_nil ?_
              refine e_seq ?_
              refine w_cond_t rfl ?_
              refine w_exit ?_
              refine e_seq_exit ?_
              refine e_blk_miss rfl ?_
              refine e_rexit (j) ?_ (fun w h => h)
              · exact ⟨rfl, by omega⟩
            · skip
              refine wl_nil ?_
              refine e_seq ?_
              refine w_cond_f rfl ?_
              refine w_skip ?_
              refine e_seq ?_
              refine w_region ?_
              refine o_y (y_loadr 2 ty_3 rfl rfl rfl) rfl rfl ?_
              refine o_y (y_addi rfl rfl (by omega) (by omega)) rfl rfl ?_
              refine o_store ty_3 rfl rfl rfl (.s (.s (.z))) rfl rfl rfl rfl ?_
              refine wl_nil ?_
              refine e_blk ?_
              refine e_rend (j + 1) ?_ (fun w h => h)
              · exact ⟨by rw [hpre]; exact hpt.symm, by omega⟩
          · skip
            have := congrArg List.length hI.1
            simp [probeL_length] at this
            omega
          · skip
            obtain ⟨rfl, hj⟩ := hI
            have har := atH_rng (n := n) (slots := slots) (by omega) 0
            have hf0 : firstH n slots slots.toNat = atH n slots 0 := if_neg (by omega)
            refine w_exit ?_
            refine e_blk_hit ?_
            refine e_seq ?_
            refine w_seq ?_
            refine w_draw 15 rfl mixed ?_
            refine a_take (i := 0) rfl wanted_none (y_loadr 4 ty_3 rfl rfl rfl) (fun w h => h) (fun w h => h) rfl (pk_seq pk_fn) (by kernel_rfl) rfl ?_
            refine a_take (i := 1) rfl wanted_none (y_loadr 10 ty_3 rfl rfl rfl) (fun w h => h) (fun w h => h) rfl (pk_seq pk_fn) (by kernel_rfl) rfl ?_
            refine a_take (i := 2) rfl wanted_none (y_eql rfl rfl) (fun w h => h) (fun w h => h) rfl (pk_seq pk_fn) (by kernel_rfl) rfl ?_
            refine wa_at (t := 90) rfl (by omega) ?_
            refine a_take (i := 3) rfl wanted_none (y_move rfl) (fun w h => h) (fun w h => h) rfl (pk_seq pk_fn) (by kernel_rfl) rfl ?_
            refine a_take (i := 4) rfl (wanted_yes rfl rfl) (y_loadr 5 ty_3 rfl rfl rfl) (fun w h => h) (fun w h => h) rfl (pk_seq pk_fn) (by kernel_rfl) rfl ?_
            refine a_take (i := 5) rfl (wanted_yes rfl rfl) (y_move rfl) (fun w h => h) (fun w h => h) rfl (pk_seq pk_fn) (by kernel_rfl) rfl ?_
            refine a_take (i := 6) rfl (wanted_yes rfl rfl) (y_loadr 10 ty_3 rfl rfl rfl) (fun w h => h) (fun w h => h) rfl (pk_seq pk_fn) (by kernel_rfl) rfl ?_
            refine a_one (i := 7) rfl rfl rfl (tame_call rfl ent_18) (by kernel_rfl) rfl ?_
            refine wl_gyes rfl rfl ?_
            refine o_callp rfl ent_18 (c_hash_Slot _ _ (by omega) (by omega) (by omega)) rfl ?_
            refine wl_nil ?_
            refine e_one (fun w h => h) ?_
            refine a_take (i := 8) rfl (wanted_yes rfl rfl) (y_eql rfl rfl) (fun w h => h) (fun w h => h) rfl (pk_seq pk_fn) (by kernel_rfl) rfl ?_
            refine wa_at (t := 96) rfl (by rw [hf0, atH_zero h2]) ?_
            refine a_take (i := 9) rfl wanted_none (y_pick_t rfl rfl) (fun w h => h) (fun w h => h) rfl (pk_seq pk_fn) (by kernel_rfl) rfl ?_
            refine a_take (i := 10) rfl wanted_none (y_move rfl) (fun w h => h) (fun w h => h) rfl (pk_seq pk_fn) (by kernel_rfl) rfl ?_
            refine a_take (i := 11) rfl (wanted_yes rfl rfl) (y_loadr 1 ty_3 rfl rfl rfl) (fun w h => h) (fun w h => h) rfl (pk_seq pk_fn) (by kernel_rfl) rfl ?_
            refine a_take (i := 12) rfl (wanted_yes rfl rfl) (y_loadr 9 ty_3 rfl rfl rfl) (fun w h => h) (fun w h => h) rfl (pk_seq pk_fn) (by kernel_rfl) rfl ?_
            refine a_take (i := 13) rfl (wanted_yes rfl rfl) (y_eql rfl rfl) (fun w h => h) (fun w h => h) rfl (pk_seq pk_fn) (by kernel_rfl) rfl ?_
            refine wa_at (t := 101) rfl (by omega) ?_
            refine a_take (i := 14) rfl wanted_none (y_pick_t rfl rfl) (fun w h => h) (fun w h => h) rfl (pk_seq pk_fn) (by kernel_rfl) rfl ?_
            refine a_one (i := 15) rfl rfl rfl (fun _ _ _ => tame_op (by kernel_rfl)) (by kernel_rfl) rfl ?_
            refine o_store ty_4 rfl rfl rfl (.s (.s (.s (.s (.s (.s (.s (.s (.z))))))))) rfl rfl rfl rfl ?_
            refine wl_nil ?_
            refine e_tail rfl ?_
            refine a_done (by kernel_rfl) ?_
            refine e_seq ?_
            refine w_ret ?_
            refine e_lvr ?_
            refine lv_take .z ?_
            refine lv_take (.s (.s (.z))) ?_
            refine lv_nil (rs := [.cell 6 4]) rfl (rs_cell 8 ty_4 rfl rfl rfl rs_nil) (fun w hw => ?_)
            exact ⟨rfl, hw.base⟩
        · skip
          exact hI.elim
end Go.Proofs.Ytahpppncjbgpaaa
