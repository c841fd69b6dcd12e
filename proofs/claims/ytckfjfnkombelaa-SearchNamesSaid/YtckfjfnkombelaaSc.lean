/- the laws of candidates -/
import Derived.Test.YtckfjfnkombelaaSb
namespace Go.Proofs.Ytckfjfnkombelaa
open Go.RowKit Go.Shelf
set_option linter.unusedVariables false
set_option linter.unusedSimpArgs false

theorem ent_14 : Enters Try.prog 14 := enters_of Try.func14 (by kernel_rfl) rfl
theorem ent_15 : Enters Try.prog 15 := enters_of Try.func15 (by kernel_rfl) rfl
theorem ent_19 : Enters Try.prog 19 := enters_of Try.func19 (by kernel_rfl) rfl
theorem ent_20 : Enters Try.prog 20 := enters_of Try.func20 (by kernel_rfl) rfl


def hitJ (n : Str) (l : List Str) (x : Str) : Bool := l.any fun d => decide (joinE n d = 0) && decide (joinN n d = x)
theorem hit_succ {n x : Str} {l : List Str} {k : Nat} (hk : k < l.length) : hitJ n (l.take (k + 1)) x = (hitJ n (l.take k) x || (decide (joinE n (l.getD k []) = 0) && decide (joinN n (l.getD k []) = x))) := by
  rw [take_getD l [] k hk, hitJ, List.any_append]; simp [hitJ]
theorem hit_yes {s : Sr} {n x : Str} (h : Ok s n) (hx : x ∈ eachS s n) (hn : ¬ x = n) : hitJ n s.doms x = true := by
  obtain ⟨_, h2⟩ := h.xs hx
  obtain ⟨d, hd, he, e⟩ := h2.resolve_left hn
  rw [hitJ, List.any_eq_true]
  exact ⟨d, hd, by rw [decide_eq_true he, join_good he, e]; simp⟩
theorem count_yes {l : List Str} {n : Str} {k : Nat} (hk : k < l.length) (h : l.getD k [] = n) : (l.take (k + 1)).count n = (l.take k).count n + 1 := by
  rw [take_getD l [] k hk, List.count_append, h]; simp
theorem count_no {l : List Str} {n : Str} {k : Nat} (hk : k < l.length) (h : ¬ l.getD k [] = n) : (l.take (k + 1)).count n = (l.take k).count n := by
  have h2 : List.count n [l.getD k []] = 0 := List.count_eq_zero.2 (fun e => h (List.mem_singleton.1 e).symm)
  rw [take_getD l [] k hk, List.count_append, h2]; rfl
theorem same2_no {a b : Str} (h : foldN a ≠ foldN b) : same2 a b = false := by rw [same2, decide_eq_false h, Bool.and_false]
theorem same2_yes {a b : Str} (h1 : nameCk a = 0) (h2 : nameCk b = 0) (h : foldN a = foldN b) : same2 a b = true := by rw [same2, decide_eq_true h1, decide_eq_true h2, decide_eq_true h]; rfl
theorem first_own {s : Sr} {n : Str} (h : Ok s n) (ho : ownS s n) : (eachS s n).getD 0 [] = n := by
  obtain ⟨r, e⟩ := h.each_own ho
  rw [e]; rfl
theorem last_own {s : Sr} {n : Str} (h : Ok s n) (ho : ¬ ownS s n) : (eachS s n).getD ((eachS s n).length - 1) [] = n := by
  rw [h.each_last ho]; simp
theorem Ok.xlen {s : Sr} {n : Str} (h : Ok s n) : ∀ x ∈ eachS s n, x.length ≤ 1000000000 := fun x hx => by
  have := (nameCk_zero.1 (h.xs hx).1).1; omega
theorem Ok.pos {s : Sr} {n : Str} (h : Ok s n) : 1 ≤ (eachS s n).length := List.length_pos_of_mem h.mem
theorem Ok.nd {s : Sr} {n : Str} (h : Ok s n) (k : Int) (h1 : 0 ≤ k) (h2 : k ≤ 15) : Ok { s with ndots := k } n := by
  refine ⟨?_, h.n0⟩
  have h3 := h.s0
  unfold srCk at h3 ⊢
  split at h3
  · omega
  · rename_i q1
    split at h3
    · omega
    · rename_i q2
      split at h3
      · omega
      · rename_i q3
        rw [if_neg q1, if_neg q2, if_neg]
        rintro (q | q)
        · exact q3 (.inl q)
        · show False
          have q' : k < 0 ∨ 15 < k := q
          omega
theorem Ok.names {s : Sr} {n : Str} (h : Ok s n) : namesE s n = 0 := by rw [namesE, if_neg (by rw [h.s0]; decide)]; exact h.n0
theorem Ok.foldLen {s : Sr} {n : Str} (h : Ok s n) : (eachS s n).length = (eachS s (foldN n)).length := by
  have := congrArg List.length h.each_fold
  simpa using this


set_option maxRecDepth 100000 in
set_option maxHeartbeats 2000000 in
theorem c_SearchEach (s : Sr) (A : Option Addr) (c : Nat) (n : Str) (hsl : s.doms.length ≤ 9223372036854775807) (hnl : n.length ≤ 9223372036854775807) : RC Try.prog 3 #[.agg (srC s A c).toArray, .string (ba n)] [Ch.rd A 1 encs s.doms] (α := Unit) (fun _ => .bool true) (fun _ => []) := by
  refine rc_of_W (args := [.agg (srC s A c).toArray, .string (ba n)]) 156 Try.func3 rfl rfl rfl (fun w0 => ?_)
  refine w_seq ?_
  refine w_region ?_
  refine o_box rfl rfl rfl (fun b1 => ?_)
  refine o_y (y_assign rfl) rfl rfl ?_
  refine wl_nil ?_
  refine e_seq ?_
  refine w_seq ?_
  refine w_seq ?_
  refine w_region ?_
  refine o_callp rfl ent_14 c_lives20 rfl ?_
  refine wl_as (t := 16) (.bool true) rfl (congrArg Value.bool rfl) ?_
  refine o_y (y_not rfl) rfl rfl ?_
  refine wl_nil ?_
  refine e_seq ?_
  refine w_cond_f rfl ?_
  refine w_skip ?_
  refine e_seq ?_
  refine w_seq ?_
  refine w_seq ?_
  refine w_region ?_
  refine o_y (y_loadrs 0 ty_24 rfl rfl rfl rfl) rfl rfl ?_
  refine o_y (y_move rfl) rfl rfl ?_
  refine o_callq rfl ent_15 rfl (c_light20 _ _ _ _ (by omega)) (fun w hw => (rd_cons (rd_S 0 rfl hw) rd_nil)) ?_
  refine wl_splitb (t := 20) rfl (fun h3_2 => ?_) (fun h3_2 => ?_)
  · skip
    refine o_y (y_not rfl) rfl rfl ?_
    refine o_y (y_move rfl) rfl rfl ?_
    refine wl_gyes rfl rfl ?_
    refine o_y (y_loadrs 0 ty_24 rfl rfl rfl rfl) rfl rfl ?_
    refine wl_gyes rfl rfl ?_
    refine o_callq rfl ent_16 rfl (c_search_Check _ _ _) (fun w hw => (rd_cons (rd_S 0 rfl hw) rd_nil)) ?_
    refine wl_gyes rfl rfl ?_
    refine o_y (y_neq rfl rfl) rfl rfl ?_
    refine wl_splitp (t := 25) rfl (fun h3_7 => ?_) (fun h3_7 => ?_)
    · skip
      refine o_y (y_pick_f rfl rfl) rfl rfl ?_
      refine o_y (y_move rfl) rfl rfl ?_
      refine wl_gno rfl rfl rfl rfl ?_
      refine wl_gno rfl rfl rfl rfl ?_
      refine wl_gno rfl rfl rfl rfl ?_
      refine o_y (y_pick_t rfl rfl) rfl rfl ?_
      refine wl_nil ?_
      refine e_seq ?_
      refine w_cond_t rfl ?_
      refine w_seq ?_
      refine w_region ?_
      refine o_y (y_assign rfl) rfl rfl ?_
      refine wl_nil ?_
      refine e_seq ?_
      refine w_ret ?_
      refine e_seq_ret ?_
      refine e_ret (ts := [4]) rfl rfl rfl (fun w hw => ?_)
      exact ⟨(), rfl, hw.base, (hw.weak (List.nil_sublist _) (fun s hs => hs)).toNews⟩
    · skip
      refine o_y (y_pick_f rfl rfl) rfl rfl ?_
      refine o_y (y_move rfl) rfl rfl ?_
      refine wl_gyes rfl rfl ?_
      refine o_y (y_move rfl) rfl rfl ?_
      refine wl_gyes rfl rfl ?_
      refine o_callp rfl ent_17 (c_ref02_Check _) rfl ?_
      refine wl_gyes rfl rfl ?_
      refine o_y (y_neq rfl rfl) rfl rfl ?_
      refine wl_splitp (t := 30) rfl (fun h3_12 => ?_) (fun h3_12 => ?_)
      · skip
        refine o_y (y_pick_f rfl rfl) rfl rfl ?_
        refine wl_nil ?_
        refine e_seq ?_
        refine w_cond_t rfl ?_
        refine w_seq ?_
        refine w_region ?_
        refine o_y (y_assign rfl) rfl rfl ?_
        refine wl_nil ?_
        refine e_seq ?_
        refine w_ret ?_
        refine e_seq_ret ?_
        refine e_ret (ts := [4]) rfl rfl rfl (fun w hw => ?_)
        exact ⟨(), rfl, hw.base, (hw.weak (List.nil_sublist _) (fun s hs => hs)).toNews⟩
      · skip
        refine o_y (y_pick_f rfl rfl) rfl rfl ?_
        refine wl_nil ?_
        refine e_seq ?_
        refine w_cond_f rfl ?_
        refine w_skip ?_
        refine e_seq ?_
        refine w_seq ?_
        have hok : Ok s n := ⟨by omega, by omega⟩
        obtain ⟨hb1, hb2, hb3, hb4⟩ := hok.bnds
        have hp1 := hok.pos
        have hp2 := hok.len
        have hnE := hok.names
        refine w_region ?_
        refine o_y (y_loadrs 0 ty_24 rfl rfl rfl rfl) rfl rfl ?_
        refine o_y (y_move rfl) rfl rfl ?_
        refine o_callr1 rfl ent_18 rfl (c_search_Names _ _ _ _) (fun w hw => (rd_cons (rd_S 0 rfl hw) rd_nil)) (fun ⟨A1, c1⟩ => ?_)
        refine o_y (y_move rfl) rfl rfl ?_
        refine o_y (y_extract rfl rfl) rfl rfl ?_
        refine o_y (y_extract rfl rfl) rfl rfl ?_
        refine o_y (y_assign rfl) rfl rfl ?_
        refine o_y (y_assign rfl) rfl rfl ?_
        refine wl_nil ?_
        refine e_seq ?_
        refine w_seq ?_
        refine w_seq ?_
        refine w_region ?_
        refine o_y (y_move rfl) rfl rfl ?_
        refine o_y (y_neq rfl rfl) rfl rfl ?_
        refine wl_af (t := 39) rfl (fun h => h hnE) ?_
        refine o_y (y_move rfl) rfl rfl ?_
        refine wl_gyes rfl rfl ?_
        refine o_y (y_move rfl) rfl rfl ?_
        refine wl_gyes rfl rfl ?_
        refine o_y (y_lenl Try.underlying22 rfl) rfl rfl ?_
        refine wl_gyes rfl rfl ?_
        refine o_y (y_eql rfl rfl) rfl rfl ?_
        refine wl_af (t := 43) rfl (by omega) ?_
        refine o_y (y_pick_f rfl rfl) rfl rfl ?_
        refine o_y (y_move rfl) rfl rfl ?_
        refine wl_gyes rfl rfl ?_
        refine o_y (y_move rfl) rfl rfl ?_
        refine wl_gyes rfl rfl ?_
        refine o_y (y_lenl Try.underlying22 rfl) rfl rfl ?_
        refine wl_gyes rfl rfl ?_
        refine o_y (y_field fa_24_1 rfl) rfl rfl ?_
        refine wl_gyes rfl rfl ?_
        refine o_y (y_loadr 1 ty_22 rfl rfl rfl) rfl rfl ?_
        refine wl_gyes rfl rfl ?_
        refine o_y (y_lenl Try.underlying22 rfl) rfl rfl ?_
        refine wl_gyes rfl rfl ?_
        refine o_y (y_addi rfl rfl (by omega) (by omega)) rfl rfl ?_
        refine wl_gyes rfl rfl ?_
        refine o_y (y_gtr rfl rfl) rfl rfl ?_
        refine wl_af (t := 52) rfl (by omega) ?_
        refine o_y (y_pick_f rfl rfl) rfl rfl ?_
        refine wl_nil ?_
        refine e_seq ?_
        refine w_cond_f rfl ?_
        refine w_skip ?_
        refine e_seq ?_
        refine w_seq ?_
        refine w_region ?_
        refine o_y (y_assign rfl) rfl rfl ?_
        refine wl_nil ?_
        refine e_seq ?_
        refine w_seq ?_
        refine w_seq ?_
        refine w_region ?_
        refine o_y (y_assign rfl) rfl rfl ?_
        refine wl_nil ?_
        refine e_seq ?_
        refine w_block ?_
        refine w_loop0 (σ := Nat) [4, 7, 8, 9, 10, 11, 12, 54, 55, 56, 57, 58, 59, 60, 61, 62, 63, 64, 65, 66, 67, 68, 69, 70, 71, 72, 73, 74, 75, 76, 77, 78, 79, 80, 81, 82, 83, 84, 85, 86, 87, 88, 89, 90, 91, 92, 93, 94, 95, 96, 97, 98, 99] (fun k => k ≤ (eachS s n).length) (fun k => (eachS s n).length - k) (fun k => [(8, .int .i64 k), (7, .int .i64 (((eachS s n).take k).count n : Nat))]) (0) ?_ ⟨rfl, rfl, trivial⟩ (fun k hI => ?_)
        · exact Nat.zero_le _
        have hcl : ((eachS s n).take k).count n ≤ (eachS s n).length := Nat.le_trans List.count_le_length (by simp; omega)
        refine w_seq ?_
        refine w_seq ?_
        refine w_region ?_
        refine o_y (y_move rfl) rfl rfl ?_
        refine o_y (y_move rfl) rfl rfl ?_
        refine o_y (y_lenl Try.underlying22 rfl) rfl rfl ?_
        refine o_y (y_lss rfl rfl) rfl rfl ?_
        refine wl_splitp (t := 57) rfl (fun h10_3 => ?_) (fun h10_3 => ?_)
        · skip
          refine wl_nil ?_
          refine e_seq ?_
          refine w_cond_t rfl ?_
          refine w_skip ?_
          refine e_seq ?_
          refine w_seq ?_
          refine w_block ?_
          refine w_seq ?_
          refine w_seq ?_
          refine w_region ?_
          refine o_y (y_move rfl) rfl rfl ?_
          refine o_y (y_move rfl) rfl rfl ?_
          refine o_y (y_ixm  Try.underlying22 ty_25 rfl rfl (rs_L 0 rfl) rfl (by omega)) rfl rfl ?_
          refine o_y (y_ldm0 enc_s ([] : Str) ty_25 rfl (rs_L 0 rfl) (by omega) rfl rfl) rfl rfl ?_
          refine o_y (y_move rfl) rfl rfl ?_
          refine o_y (y_eqls rfl rfl) rfl rfl ?_
          refine wl_splitp (t := 65) rfl (fun h12_5 => ?_) (fun h12_5 => ?_)
          · skip
            refine wl_nil ?_
            refine e_seq ?_
            refine w_cond_t rfl ?_
            refine w_seq ?_
            refine w_region ?_
            refine o_y (y_move rfl) rfl rfl ?_
            refine o_y (y_addi rfl rfl (by omega) (by omega)) rfl rfl ?_
            refine o_y (y_assign rfl) rfl rfl ?_
            refine wl_nil ?_
            refine e_seq ?_
            refine w_exit ?_
            refine e_seq_exit ?_
            refine e_blk_hit ?_
            refine e_seq ?_
            refine w_region ?_
            refine o_y (y_move rfl) rfl rfl ?_
            refine o_y (y_addi rfl rfl (by omega) (by omega)) rfl rfl ?_
            refine o_y (y_assign rfl) rfl rfl ?_
            refine wl_nil ?_
            refine e_back (k + 1) ?_ ?_ ⟨rfl, lk rfl (by congr 1; have := count_yes (l := eachS s n) (n := n) (k := k) (by omega) h12_5; omega), trivial⟩ (by repeat (first | exact trivial | refine ⟨rfl, ?_⟩)) (fun w h => h)
            · omega
            · omega
          · skip
            refine wl_nil ?_
            refine e_seq ?_
            refine w_cond_f rfl ?_
            refine w_skip ?_
            refine e_seq ?_
            refine w_seq ?_
            refine w_region ?_
            refine o_y (y_assign rfl) rfl rfl ?_
            refine wl_nil ?_
            refine e_seq ?_
            refine w_seq ?_
            refine w_seq ?_
            refine w_region ?_
            refine o_y (y_assign rfl) rfl rfl ?_
            refine wl_nil ?_
            refine e_seq ?_
            refine w_block ?_
            refine w_loop0 (σ := Nat) [9, 10, 11, 12, 68, 69, 70, 71, 72, 73, 74, 75, 76, 77, 78, 79, 80, 81, 82, 83, 84, 85, 86, 87, 88, 89, 90, 91, 92, 93, 94, 95, 96, 97] (fun j => j ≤ s.doms.length) (fun j => s.doms.length - j) (fun j => [(10, .int .i64 j), (9, .bool (hitJ n (s.doms.take j) ((eachS s n).getD k [])))]) (0) ?_ ⟨rfl, rfl, trivial⟩ (fun j hI => ?_)
            · exact Nat.zero_le _
            refine w_seq ?_
            refine w_seq ?_
            refine w_region ?_
            refine o_y (y_move rfl) rfl rfl ?_
            refine o_y (y_field fa_24_1 rfl) rfl rfl ?_
            refine o_y (y_loadr 1 ty_22 rfl rfl rfl) rfl rfl ?_
            refine o_y (y_lenl Try.underlying22 rfl) rfl rfl ?_
            refine o_y (y_lss rfl rfl) rfl rfl ?_
            refine wl_splitp (t := 72) rfl (fun h16_4 => ?_) (fun h16_4 => ?_)
            · skip
              refine wl_nil ?_
              refine e_seq ?_
              refine w_cond_t rfl ?_
              refine w_skip ?_
              refine e_seq ?_
              refine w_seq ?_
              refine w_block ?_
              refine w_seq ?_
              refine w_region ?_
              refine o_y (y_move rfl) rfl rfl ?_
              refine o_y (y_field fa_24_1 rfl) rfl rfl ?_
              refine o_y (y_loadr 1 ty_22 rfl rfl rfl) rfl rfl ?_
              refine o_y (y_move rfl) rfl rfl ?_
              refine o_y (y_ixm  Try.underlying22 ty_25 rfl rfl (rs_S 0 rfl) rfl (by omega)) rfl rfl ?_
              refine o_y (y_ldm0 enc_s ([] : Str) ty_25 rfl (rs_S 0 rfl) (by omega) rfl rfl) rfl rfl ?_
              refine o_callp rfl ent_19 (c_ref02_Join _ _ (by omega) (by have := hb3 _ (mem_getD (l := s.doms) (d := []) (k := j) (by omega)); omega)) rfl ?_
              refine o_y (y_move rfl) rfl rfl ?_
              refine o_y (y_extract rfl rfl) rfl rfl ?_
              refine o_y (y_extract rfl rfl) rfl rfl ?_
              refine o_y (y_assign rfl) rfl rfl ?_
              refine o_y (y_assign rfl) rfl rfl ?_
              refine wl_nil ?_
              refine e_seq ?_
              refine w_region ?_
              refine o_y (y_move rfl) rfl rfl ?_
              refine wl_splitb (t := 85) rfl (fun h19_0 => ?_) (fun h19_0 => ?_)
              · skip
                refine o_y (y_move rfl) rfl rfl ?_
                refine wl_gno rfl rfl rfl rfl ?_
                refine wl_gno rfl rfl rfl rfl ?_
                refine wl_gno rfl rfl rfl rfl ?_
                refine wl_gnou rfl rfl rfl ?_
                refine wl_gnou rfl rfl rfl ?_
                refine wl_gnou rfl rfl rfl ?_
                refine wl_gnou rfl rfl rfl ?_
                refine wl_gnou rfl rfl rfl ?_
                refine wl_gnou rfl rfl rfl ?_
                refine wl_gno rfl rfl rfl rfl ?_
                refine o_y (y_pick_t rfl rfl) rfl rfl ?_
                refine o_y (y_assign rfl) rfl rfl ?_
                refine wl_nil ?_
                refine e_blk ?_
                refine e_seq ?_
                refine w_region ?_
                refine o_y (y_move rfl) rfl rfl ?_
                refine o_y (y_addi rfl rfl (by omega) (by omega)) rfl rfl ?_
                refine o_y (y_assign rfl) rfl rfl ?_
                refine wl_nil ?_
                refine e_back (j + 1) ?_ ?_ ⟨rfl, lk rfl (congrArg Value.bool (by rw [hit_succ (by omega)]; first | (rw [h19_0]; rfl) | (rw [h19_0, decide_eq_true h19_3, decide_eq_true h19_10]; rfl) | (rw [h19_0, decide_eq_true h19_3, decide_eq_false h19_10]; rfl) | (rw [h19_0, decide_eq_false h19_3]; rfl))), trivial⟩ (by repeat (first | exact trivial | refine ⟨rfl, ?_⟩)) (fun w h => h)
                · omega
                · omega
              · skip
                refine o_y (y_move rfl) rfl rfl ?_
                refine wl_gyes rfl rfl ?_
                refine o_y (y_move rfl) rfl rfl ?_
                refine wl_gyes rfl rfl ?_
                refine o_y (y_eql rfl rfl) rfl rfl ?_
                refine wl_splitp (t := 88) rfl (fun h19_3 => ?_) (fun h19_3 => ?_)
                · skip
                  refine wl_gyes rfl rfl ?_
                  refine o_y (y_move rfl) rfl rfl ?_
                  refine wl_gyes rfl rfl ?_
                  refine o_y (y_move rfl) rfl rfl ?_
                  refine wl_gyes rfl rfl ?_
                  refine o_y (y_move rfl) rfl rfl ?_
                  refine wl_gyes rfl rfl ?_
                  refine o_y (y_move rfl) rfl rfl ?_
                  refine wl_gyes rfl rfl ?_
                  refine o_y (y_ixm  Try.underlying22 ty_25 rfl rfl (rs_L 0 rfl) rfl (by omega)) rfl rfl ?_
                  refine wl_gyes rfl rfl ?_
                  refine o_y (y_ldm0 enc_s ([] : Str) ty_25 rfl (rs_L 0 rfl) (by omega) rfl rfl) rfl rfl ?_
                  refine wl_gyes rfl rfl ?_
                  refine o_y (y_eqls rfl rfl) rfl rfl ?_
                  refine wl_splitp (t := 95) rfl (fun h19_10 => ?_) (fun h19_10 => ?_)
                  · skip
                    refine wl_gyes rfl rfl ?_
                    refine o_y (y_pick_t rfl rfl) rfl rfl ?_
                    refine o_y (y_pick_f rfl rfl) rfl rfl ?_
                    refine o_y (y_assign rfl) rfl rfl ?_
                    refine wl_nil ?_
                    refine e_blk ?_
                    refine e_seq ?_
                    refine w_region ?_
                    refine o_y (y_move rfl) rfl rfl ?_
                    refine o_y (y_addi rfl rfl (by omega) (by omega)) rfl rfl ?_
                    refine o_y (y_assign rfl) rfl rfl ?_
                    refine wl_nil ?_
                    refine e_back (j + 1) ?_ ?_ ⟨rfl, lk rfl (congrArg Value.bool (by rw [hit_succ (by omega)]; first | (rw [h19_0]; rfl) | (rw [h19_0, decide_eq_true h19_3, decide_eq_true h19_10]; rfl) | (rw [h19_0, decide_eq_true h19_3, decide_eq_false h19_10]; rfl) | (rw [h19_0, decide_eq_false h19_3]; rfl))), trivial⟩ (by repeat (first | exact trivial | refine ⟨rfl, ?_⟩)) (fun w h => h)
                    · omega
                    · omega
                  · skip
                    refine wl_gyes rfl rfl ?_
                    refine o_y (y_pick_t rfl rfl) rfl rfl ?_
                    refine o_y (y_pick_f rfl rfl) rfl rfl ?_
                    refine o_y (y_assign rfl) rfl rfl ?_
                    refine wl_nil ?_
                    refine e_blk ?_
                    refine e_seq ?_
                    refine w_region ?_
                    refine o_y (y_move rfl) rfl rfl ?_
                    refine o_y (y_addi rfl rfl (by omega) (by omega)) rfl rfl ?_
                    refine o_y (y_assign rfl) rfl rfl ?_
                    refine wl_nil ?_
                    refine e_back (j + 1) ?_ ?_ ⟨rfl, lk rfl (congrArg Value.bool (by rw [hit_succ (by omega)]; first | (rw [h19_0]; rfl) | (rw [h19_0, decide_eq_true h19_3, decide_eq_true h19_10]; rfl) | (rw [h19_0, decide_eq_true h19_3, decide_eq_false h19_10]; rfl) | (rw [h19_0, decide_eq_false h19_3]; rfl))), trivial⟩ (by repeat (first | exact trivial | refine ⟨rfl, ?_⟩)) (fun w h => h)
                    · omega
                    · omega
                · skip
                  refine wl_gyes rfl rfl ?_
                  refine o_y (y_move rfl) rfl rfl ?_
                  refine wl_gno rfl rfl rfl rfl ?_
                  refine wl_gno rfl rfl rfl rfl ?_
                  refine wl_gno rfl rfl rfl rfl ?_
                  refine wl_gno rfl rfl rfl rfl ?_
                  refine wl_gno rfl rfl rfl rfl ?_
                  refine wl_gno rfl rfl rfl rfl ?_
                  refine wl_gyes rfl rfl ?_
                  refine o_y (y_pick_f rfl rfl) rfl rfl ?_
                  refine o_y (y_pick_f rfl rfl) rfl rfl ?_
                  refine o_y (y_assign rfl) rfl rfl ?_
                  refine wl_nil ?_
                  refine e_blk ?_
                  refine e_seq ?_
                  refine w_region ?_
                  refine o_y (y_move rfl) rfl rfl ?_
                  refine o_y (y_addi rfl rfl (by omega) (by omega)) rfl rfl ?_
                  refine o_y (y_assign rfl) rfl rfl ?_
                  refine wl_nil ?_
                  refine e_back (j + 1) ?_ ?_ ⟨rfl, lk rfl (congrArg Value.bool (by rw [hit_succ (by omega)]; first | (rw [h19_0]; rfl) | (rw [h19_0, decide_eq_true h19_3, decide_eq_true h19_10]; rfl) | (rw [h19_0, decide_eq_true h19_3, decide_eq_false h19_10]; rfl) | (rw [h19_0, decide_eq_false h19_3]; rfl))), trivial⟩ (by repeat (first | exact trivial | refine ⟨rfl, ?_⟩)) (fun w h => h)
                  · omega
                  · omega
            · skip
              refine wl_nil ?_
              refine e_seq ?_
              refine w_cond_f rfl ?_
              refine w_exit ?_
              refine e_seq_exit ?_
              refine e_loop_exit ?_
              refine e_blk_hit ?_
              refine e_seq ?_
              refine w_seq ?_
              have hjl : j = s.doms.length := by omega
              subst hjl
              refine w_region ?_
              refine o_y (y_move rfl) rfl rfl ?_
              refine wl_as (t := 98) (.bool true) rfl (congrArg Value.bool (by rw [List.take_length]; exact hit_yes hok (mem_getD (by omega)) h12_5)) ?_
              refine o_y (y_not rfl) rfl rfl ?_
              refine wl_nil ?_
              refine e_seq ?_
              refine w_cond_f rfl ?_
              refine w_skip ?_
              refine e_blk ?_
              refine e_seq ?_
              refine w_region ?_
              refine o_y (y_move rfl) rfl rfl ?_
              refine o_y (y_addi rfl rfl (by omega) (by omega)) rfl rfl ?_
              refine o_y (y_assign rfl) rfl rfl ?_
              refine wl_nil ?_
              refine e_back (k + 1) ?_ ?_ ⟨rfl, lk rfl (by congr 1; have := count_no (l := eachS s n) (n := n) (k := k) (by omega) h12_5; omega), trivial⟩ (by repeat (first | exact trivial | refine ⟨rfl, ?_⟩)) (fun w h => h)
              · omega
              · omega
        · skip
          refine wl_nil ?_
          refine e_seq ?_
          refine w_cond_f rfl ?_
          refine w_exit ?_
          refine e_seq_exit ?_
          refine e_loop_exit ?_
          refine e_blk_hit ?_
          refine e_seq ?_
          refine w_seq ?_
          refine w_seq ?_
          have hkl : k = (eachS s n).length := by omega
          subst hkl
          refine w_region ?_
          refine o_y (y_assign rfl) rfl rfl ?_
          refine wl_nil ?_
          refine e_seq ?_
          refine w_block ?_
          refine w_loop0 (σ := Nat) [4, 13, 14, 100, 101, 102, 103, 104, 105, 106, 107, 108, 109, 110, 111, 112, 113, 114, 115, 116, 117, 118, 119] (fun i => i ≤ (eachS s n).length) (fun i => (eachS s n).length - i) (fun i => [(13, .int .i64 i)]) (0) ?_ ⟨rfl, trivial⟩ (fun i hI => ?_)
          · exact Nat.zero_le _
          refine w_seq ?_
          refine w_seq ?_
          refine w_region ?_
          refine o_y (y_move rfl) rfl rfl ?_
          refine o_y (y_move rfl) rfl rfl ?_
          refine o_y (y_lenl Try.underlying22 rfl) rfl rfl ?_
          refine o_y (y_lss rfl rfl) rfl rfl ?_
          refine wl_splitp (t := 103) rfl (fun h23_3 => ?_) (fun h23_3 => ?_)
          · skip
            refine wl_nil ?_
            refine e_seq ?_
            refine w_cond_t rfl ?_
            refine w_skip ?_
            refine e_seq ?_
            refine w_seq ?_
            refine w_block ?_
            refine w_seq ?_
            refine w_region ?_
            refine o_y (y_assign rfl) rfl rfl ?_
            refine wl_nil ?_
            refine e_seq ?_
            refine w_block ?_
            refine w_loop0 (σ := Nat) [4, 14, 106, 107, 108, 109, 110, 111, 112, 113, 114, 115, 116, 117, 118, 119] (fun m => m ≤ i) (fun m => i - m) (fun m => [(14, .int .i64 m)]) (0) ?_ ⟨rfl, trivial⟩ (fun m hI => ?_)
            · exact Nat.zero_le _
            refine w_seq ?_
            refine w_seq ?_
            refine w_region ?_
            refine o_y (y_move rfl) rfl rfl ?_
            refine o_y (y_move rfl) rfl rfl ?_
            refine o_y (y_lss rfl rfl) rfl rfl ?_
            refine wl_splitp (t := 108) rfl (fun h26_2 => ?_) (fun h26_2 => ?_)
            · skip
              refine wl_nil ?_
              refine e_seq ?_
              refine w_cond_t rfl ?_
              refine w_skip ?_
              refine e_seq ?_
              refine w_seq ?_
              refine w_block ?_
              refine w_seq ?_
              refine w_draw 9 rfl mixed ?_
              refine a_take (i := 0) rfl wanted_none (y_move rfl) (fun w h => h) (fun w h => h) rfl (pk_seq (pk_blk (pk_seq (pk_loop (pk_blk (pk_blk (pk_seq (pk_loop (pk_blk (pk_seq pk_fn)))))))))) (by kernel_rfl) rfl ?_
              refine a_take (i := 1) rfl wanted_none (y_move rfl) (fun w h => h) (fun w h => h) rfl (pk_seq (pk_blk (pk_seq (pk_loop (pk_blk (pk_blk (pk_seq (pk_loop (pk_blk (pk_seq pk_fn)))))))))) (by kernel_rfl) rfl ?_
              refine a_take (i := 2) rfl wanted_none (y_ixm  Try.underlying22 ty_25 rfl rfl (rs_L 0 rfl) rfl (by omega)) (fun w h => h) (fun w h => h) rfl (pk_seq (pk_blk (pk_seq (pk_loop (pk_blk (pk_blk (pk_seq (pk_loop (pk_blk (pk_seq pk_fn)))))))))) (by kernel_rfl) rfl ?_
              refine a_take (i := 3) rfl wanted_none (y_ldm0 enc_s ([] : Str) ty_25 rfl (rs_L 0 rfl) (by omega) rfl rfl) (fun w h => h) (fun w h => h) rfl (pk_seq (pk_blk (pk_seq (pk_loop (pk_blk (pk_blk (pk_seq (pk_loop (pk_blk (pk_seq pk_fn)))))))))) (by kernel_rfl) rfl ?_
              refine a_take (i := 4) rfl wanted_none (y_move rfl) (fun w h => h) (fun w h => h) rfl (pk_seq (pk_blk (pk_seq (pk_loop (pk_blk (pk_blk (pk_seq (pk_loop (pk_blk (pk_seq pk_fn)))))))))) (by kernel_rfl) rfl ?_
              refine a_take (i := 5) rfl wanted_none (y_move rfl) (fun w h => h) (fun w h => h) rfl (pk_seq (pk_blk (pk_seq (pk_loop (pk_blk (pk_blk (pk_seq (pk_loop (pk_blk (pk_seq pk_fn)))))))))) (by kernel_rfl) rfl ?_
              refine a_take (i := 6) rfl wanted_none (y_ixm  Try.underlying22 ty_25 rfl rfl (rs_L 0 rfl) rfl (by omega)) (fun w h => h) (fun w h => h) rfl (pk_seq (pk_blk (pk_seq (pk_loop (pk_blk (pk_blk (pk_seq (pk_loop (pk_blk (pk_seq pk_fn)))))))))) (by kernel_rfl) rfl ?_
              refine a_take (i := 7) rfl wanted_none (y_ldm0 enc_s ([] : Str) ty_25 rfl (rs_L 0 rfl) (by omega) rfl rfl) (fun w h => h) (fun w h => h) rfl (pk_seq (pk_blk (pk_seq (pk_loop (pk_blk (pk_blk (pk_seq (pk_loop (pk_blk (pk_seq pk_fn)))))))))) (by kernel_rfl) rfl ?_
              refine a_one (i := 8) rfl rfl rfl (tame_call rfl ent_20) (by kernel_rfl) rfl ?_
              refine o_callp rfl ent_20 (c_ref02_Same _ _ (hok.xlen _ (mem_getD (by omega))) (hok.xlen _ (mem_getD (by omega)))) rfl ?_
              refine wl_nil ?_
              refine e_one (fun w h => h) ?_
              refine wa_as (t := 119) (.bool false) rfl (congrArg Value.bool (same2_no (dis_at hok.dis (by omega) (by omega)))) ?_
              refine a_done (by kernel_rfl) ?_
              refine e_seq ?_
              refine w_cond_f rfl ?_
              refine w_skip ?_
              refine e_blk ?_
              refine e_seq ?_
              refine w_region ?_
              refine o_y (y_move rfl) rfl rfl ?_
              refine o_y (y_addi rfl rfl (by omega) (by omega)) rfl rfl ?_
              refine o_y (y_assign rfl) rfl rfl ?_
              refine wl_nil ?_
              refine e_back (m + 1) ?_ ?_ ⟨rfl, trivial⟩ (by repeat (first | exact trivial | refine ⟨rfl, ?_⟩)) (fun w h => h)
              · omega
              · omega
            · skip
              refine wl_nil ?_
              refine e_seq ?_
              refine w_cond_f rfl ?_
              refine w_exit ?_
              refine e_seq_exit ?_
              refine e_loop_exit ?_
              refine e_blk_hit ?_
              refine e_blk ?_
              refine e_seq ?_
              refine w_region ?_
              refine o_y (y_move rfl) rfl rfl ?_
              refine o_y (y_addi rfl rfl (by omega) (by omega)) rfl rfl ?_
              refine o_y (y_assign rfl) rfl rfl ?_
              refine wl_nil ?_
              refine e_back (i + 1) ?_ ?_ ⟨rfl, trivial⟩ (by repeat (first | exact trivial | refine ⟨rfl, ?_⟩)) (fun w h => h)
              · omega
              · omega
          · skip
            refine wl_nil ?_
            refine e_seq ?_
            refine w_cond_f rfl ?_
            refine w_exit ?_
            refine e_seq_exit ?_
            refine e_loop_exit ?_
            refine e_blk_hit ?_
            refine e_seq ?_
            refine w_seq ?_
            refine w_draw 11 rfl mixed ?_
            refine a_take (i := 0) rfl wanted_none (y_move rfl) (fun w h => h) (fun w h => h) rfl (pk_seq pk_fn) (by kernel_rfl) rfl ?_
            refine a_take (i := 1) rfl wanted_none (y_eqls rfl rfl) (fun w h => h) (fun w h => h) rfl (pk_seq pk_fn) (by kernel_rfl) rfl ?_
            refine wa_splitp (t := 121) rfl (fun h30_1 => ?_) (fun h30_1 => ?_)
            · skip
              refine a_take (i := 2) rfl wanted_none (y_move rfl) (fun w h => h) (fun w h => h) rfl (pk_seq pk_fn) (by kernel_rfl) rfl ?_
              refine a_skip (i := 3) rfl (wanted_no rfl rfl rfl) (fun w h => h) rfl (pk_seq pk_fn) (by kernel_rfl) rfl ?_
              refine a_skip (i := 6) rfl (wanted_no rfl rfl rfl) (fun w h => h) rfl (pk_seq pk_fn) (by kernel_rfl) rfl ?_
              refine a_skip (i := 7) rfl (wanted_no rfl rfl rfl) (fun w h => h) rfl (pk_seq pk_fn) (by kernel_rfl) rfl ?_
              refine a_skip (i := 4) rfl (wanted_no rfl rfl rfl) (fun w h => h) rfl (pk_seq pk_fn) (by kernel_rfl) rfl ?_
              refine a_skip (i := 5) rfl (wanted_no rfl rfl rfl) (fun w h => h) rfl (pk_seq pk_fn) (by kernel_rfl) rfl ?_
              refine a_skip (i := 8) rfl (wanted_no rfl rfl rfl) (fun w h => h) rfl (pk_seq pk_fn) (by kernel_rfl) rfl ?_
              refine a_take (i := 9) rfl wanted_none (y_pick_t rfl rfl) (fun w h => h) (fun w h => h) rfl (pk_seq pk_fn) (by kernel_rfl) rfl ?_
              refine a_take (i := 10) rfl wanted_none (y_assign rfl) (fun w h => h) (fun w h => h) rfl (pk_seq pk_fn) (by kernel_rfl) rfl ?_
              refine a_done (by kernel_rfl) ?_
              refine e_seq ?_
              refine w_seq ?_
              refine w_region ?_
              refine o_y (y_move rfl) rfl rfl ?_
              refine o_y (y_eql rfl rfl) rfl rfl ?_
              refine wl_at (t := 131) rfl (by rw [List.take_length]; have := count_one hok.dis hok.mem; omega) ?_
              refine o_y (y_move rfl) rfl rfl ?_
              refine wl_gyes rfl rfl ?_
              refine o_y (y_move rfl) rfl rfl ?_
              refine wl_gyes rfl rfl ?_
              refine o_y (y_move rfl) rfl rfl ?_
              refine wl_gyes rfl rfl ?_
              refine o_y (y_move rfl) rfl rfl ?_
              refine wl_gyes rfl rfl ?_
              refine o_y (y_ixm (k := 0) Try.underlying22 ty_25 rfl rfl (rs_L 0 rfl) rfl (by omega)) rfl rfl ?_
              refine wl_gyes rfl rfl ?_
              refine o_y (y_ldm0 (k := 0) enc_s ([] : Str) ty_25 rfl (rs_L 0 rfl) (by omega) rfl rfl) rfl rfl ?_
              refine wl_gyes rfl rfl ?_
              refine o_y (y_move rfl) rfl rfl ?_
              refine wl_gyes rfl rfl ?_
              refine o_y (y_eqls rfl rfl) rfl rfl ?_
              refine wl_at (t := 139) rfl (first_own hok (by first | exact .inl h30_1 | exact .inr (by omega))) ?_
              refine wl_gyes rfl rfl ?_
              refine o_y (y_pick_t rfl rfl) rfl rfl ?_
              refine wl_gyes rfl rfl ?_
              refine o_y (y_move rfl) rfl rfl ?_
              refine wl_gno rfl rfl rfl rfl ?_
              refine wl_gno rfl rfl rfl rfl ?_
              refine wl_gno rfl rfl rfl rfl ?_
              refine wl_gnou rfl rfl rfl ?_
              refine wl_gnou rfl rfl rfl ?_
              refine wl_gnou rfl rfl rfl ?_
              refine wl_gnou rfl rfl rfl ?_
              refine wl_gnou rfl rfl rfl ?_
              refine wl_gnou rfl rfl rfl ?_
              refine wl_gnou rfl rfl rfl ?_
              refine wl_gnou rfl rfl rfl ?_
              refine wl_gno rfl rfl rfl rfl ?_
              refine wl_gyes rfl rfl ?_
              refine o_y (y_pick_t rfl rfl) rfl rfl ?_
              refine o_y (y_pick_t rfl rfl) rfl rfl ?_
              refine o_y (y_assign rfl) rfl rfl ?_
              refine wl_nil ?_
              refine e_seq ?_
              refine w_ret ?_
              refine e_ret (ts := [4]) rfl rfl rfl (fun w hw => ?_)
              exact ⟨(), rfl, hw.base, (hw.weak (List.nil_sublist _) (fun s hs => hs)).toNews⟩
            · skip
              refine a_take (i := 2) rfl wanted_none (y_move rfl) (fun w h => h) (fun w h => h) rfl (pk_seq pk_fn) (by kernel_rfl) rfl ?_
              refine a_take (i := 3) rfl (wanted_yes rfl rfl) (y_move rfl) (fun w h => h) (fun w h => h) rfl (pk_seq pk_fn) (by kernel_rfl) rfl ?_
              refine a_take (i := 6) rfl (wanted_yes rfl rfl) (y_field fa_24_0 rfl) (fun w h => h) (fun w h => h) rfl (pk_seq pk_fn) (by kernel_rfl) rfl ?_
              refine a_take (i := 7) rfl (wanted_yes rfl rfl) (y_loadr 1 ty_3 rfl rfl rfl) (fun w h => h) (fun w h => h) rfl (pk_seq pk_fn) (by kernel_rfl) rfl ?_
              refine a_one (i := 4) rfl rfl rfl (tame_call rfl ent_21) (by kernel_rfl) rfl ?_
              refine wl_gyes rfl rfl ?_
              refine o_callr1 rfl ent_21 rfl (c_ref02_Labels _) (fun w hw => rd_nil) (fun ⟨A2, c2⟩ => ?_)
              refine wl_nil ?_
              refine e_one (fun w h => h.weak (.cons _ (List.Sublist.refl _)) (fun s hs => hs)) ?_
              refine a_take (i := 5) rfl (wanted_yes rfl rfl) (y_lenl Try.underlying36 rfl) (fun w h => h.weak (.cons _ (List.Sublist.refl _)) (fun s hs => hs)) (fun w h => h) rfl (pk_seq pk_fn) (by kernel_rfl) rfl ?_
              refine a_take (i := 8) rfl (wanted_yes rfl rfl) (y_gtr rfl rfl) (fun w h => h.weak (.cons _ (List.Sublist.refl _)) (fun s hs => hs)) (fun w h => h) rfl (pk_seq pk_fn) (by kernel_rfl) rfl ?_
              refine wa_splitp (t := 128) rfl (fun h30_8 => ?_) (fun h30_8 => ?_)
              · skip
                refine a_take (i := 9) rfl wanted_none (y_pick_f rfl rfl) (fun w h => h.weak (.cons _ (List.Sublist.refl _)) (fun s hs => hs)) (fun w h => h) rfl (pk_seq pk_fn) (by kernel_rfl) rfl ?_
                refine a_take (i := 10) rfl wanted_none (y_assign rfl) (fun w h => h.weak (.cons _ (List.Sublist.refl _)) (fun s hs => hs)) (fun w h => h) rfl (pk_seq pk_fn) (by kernel_rfl) rfl ?_
                refine a_done (by kernel_rfl) ?_
                refine e_seq ?_
                refine w_seq ?_
                refine w_region ?_
                refine o_y (y_move rfl) rfl rfl ?_
                refine o_y (y_eql rfl rfl) rfl rfl ?_
                refine wl_at (t := 131) rfl (by rw [List.take_length]; have := count_one hok.dis hok.mem; omega) ?_
                refine o_y (y_move rfl) rfl rfl ?_
                refine wl_gyes rfl rfl ?_
                refine o_y (y_move rfl) rfl rfl ?_
                refine wl_gyes rfl rfl ?_
                refine o_y (y_move rfl) rfl rfl ?_
                refine wl_gyes rfl rfl ?_
                refine o_y (y_move rfl) rfl rfl ?_
                refine wl_gyes rfl rfl ?_
                refine o_y (y_ixm (k := 0) Try.underlying22 ty_25 rfl rfl (rs_L 1 rfl) rfl (by omega)) rfl rfl ?_
                refine wl_gyes rfl rfl ?_
                refine o_y (y_ldm0 (k := 0) enc_s ([] : Str) ty_25 rfl (rs_L 1 rfl) (by omega) rfl rfl) rfl rfl ?_
                refine wl_gyes rfl rfl ?_
                refine o_y (y_move rfl) rfl rfl ?_
                refine wl_gyes rfl rfl ?_
                refine o_y (y_eqls rfl rfl) rfl rfl ?_
                refine wl_at (t := 139) rfl (first_own hok (by first | exact .inl h30_1 | exact .inr (by omega))) ?_
                refine wl_gyes rfl rfl ?_
                refine o_y (y_pick_t rfl rfl) rfl rfl ?_
                refine wl_gyes rfl rfl ?_
                refine o_y (y_move rfl) rfl rfl ?_
                refine wl_gno rfl rfl rfl rfl ?_
                refine wl_gno rfl rfl rfl rfl ?_
                refine wl_gno rfl rfl rfl rfl ?_
                refine wl_gnou rfl rfl rfl ?_
                refine wl_gnou rfl rfl rfl ?_
                refine wl_gnou rfl rfl rfl ?_
                refine wl_gnou rfl rfl rfl ?_
                refine wl_gnou rfl rfl rfl ?_
                refine wl_gnou rfl rfl rfl ?_
                refine wl_gnou rfl rfl rfl ?_
                refine wl_gnou rfl rfl rfl ?_
                refine wl_gno rfl rfl rfl rfl ?_
                refine wl_gyes rfl rfl ?_
                refine o_y (y_pick_t rfl rfl) rfl rfl ?_
                refine o_y (y_pick_t rfl rfl) rfl rfl ?_
                refine o_y (y_assign rfl) rfl rfl ?_
                refine wl_nil ?_
                refine e_seq ?_
                refine w_ret ?_
                refine e_ret (ts := [4]) rfl rfl rfl (fun w hw => ?_)
                exact ⟨(), rfl, hw.base, (hw.weak (List.nil_sublist _) (fun s hs => hs)).toNews⟩
              · skip
                refine a_take (i := 9) rfl wanted_none (y_pick_f rfl rfl) (fun w h => h.weak (.cons _ (List.Sublist.refl _)) (fun s hs => hs)) (fun w h => h) rfl (pk_seq pk_fn) (by kernel_rfl) rfl ?_
                refine a_take (i := 10) rfl wanted_none (y_assign rfl) (fun w h => h.weak (.cons _ (List.Sublist.refl _)) (fun s hs => hs)) (fun w h => h) rfl (pk_seq pk_fn) (by kernel_rfl) rfl ?_
                refine a_done (by kernel_rfl) ?_
                refine e_seq ?_
                refine w_seq ?_
                refine w_region ?_
                refine o_y (y_move rfl) rfl rfl ?_
                refine o_y (y_eql rfl rfl) rfl rfl ?_
                refine wl_at (t := 131) rfl (by rw [List.take_length]; have := count_one hok.dis hok.mem; omega) ?_
                refine o_y (y_move rfl) rfl rfl ?_
                refine wl_gyes rfl rfl ?_
                refine o_y (y_move rfl) rfl rfl ?_
                refine wl_gyes rfl rfl ?_
                refine o_y (y_move rfl) rfl rfl ?_
                refine wl_gno rfl rfl rfl rfl ?_
                refine wl_gno rfl rfl rfl rfl ?_
                refine wl_gno rfl rfl rfl rfl ?_
                refine wl_gno rfl rfl rfl rfl ?_
                refine wl_gno rfl rfl rfl rfl ?_
                refine wl_gyes rfl rfl ?_
                refine o_y (y_pick_f rfl rfl) rfl rfl ?_
                refine wl_gyes rfl rfl ?_
                refine o_y (y_move rfl) rfl rfl ?_
                refine wl_gyes rfl rfl ?_
                refine o_y (y_move rfl) rfl rfl ?_
                refine wl_gyes rfl rfl ?_
                refine o_y (y_not rfl) rfl rfl ?_
                refine wl_gyes rfl rfl ?_
                refine o_y (y_move rfl) rfl rfl ?_
                refine wl_gyes rfl rfl ?_
                refine o_y (y_move rfl) rfl rfl ?_
                refine wl_gyes rfl rfl ?_
                refine o_y (y_move rfl) rfl rfl ?_
                refine wl_gyes rfl rfl ?_
                refine o_y (y_lenl Try.underlying22 rfl) rfl rfl ?_
                refine wl_gyes rfl rfl ?_
                refine o_y (y_subi rfl rfl (by omega) (by omega)) rfl rfl ?_
                refine wl_gyes rfl rfl ?_
                refine o_y (y_ixm (k := (eachS s n).length - 1) Try.underlying22 ty_25 rfl rfl (rs_L 1 rfl) (by omega) (by omega)) rfl rfl ?_
                refine wl_gyes rfl rfl ?_
                refine o_y (y_ldm0 enc_s ([] : Str) ty_25 rfl (rs_L 1 rfl) (by omega) rfl rfl) rfl rfl ?_
                refine wl_gyes rfl rfl ?_
                refine o_y (y_move rfl) rfl rfl ?_
                refine wl_gyes rfl rfl ?_
                refine o_y (y_eqls rfl rfl) rfl rfl ?_
                refine wl_at (t := 152) rfl (last_own hok (own_no h30_1 (by omega))) ?_
                refine wl_gyes rfl rfl ?_
                refine o_y (y_pick_t rfl rfl) rfl rfl ?_
                refine wl_gyes rfl rfl ?_
                refine o_y (y_pick_f rfl rfl) rfl rfl ?_
                refine o_y (y_pick_t rfl rfl) rfl rfl ?_
                refine o_y (y_assign rfl) rfl rfl ?_
                refine wl_nil ?_
                refine e_seq ?_
                refine w_ret ?_
                refine e_ret (ts := [4]) rfl rfl rfl (fun w hw => ?_)
                exact ⟨(), rfl, hw.base, (hw.weak (List.nil_sublist _) (fun s hs => hs)).toNews⟩
  · skip
    refine o_y (y_not rfl) rfl rfl ?_
    refine o_y (y_move rfl) rfl rfl ?_
    refine wl_gno rfl rfl rfl rfl ?_
    refine wl_gno rfl rfl rfl rfl ?_
    refine wl_gno rfl rfl rfl rfl ?_
    refine o_y (y_pick_t rfl rfl) rfl rfl ?_
    refine o_y (y_move rfl) rfl rfl ?_
    refine wl_gno rfl rfl rfl rfl ?_
    refine wl_gno rfl rfl rfl rfl ?_
    refine wl_gno rfl rfl rfl rfl ?_
    refine o_y (y_pick_t rfl rfl) rfl rfl ?_
    refine wl_nil ?_
    refine e_seq ?_
    refine w_cond_t rfl ?_
    refine w_seq ?_
    refine w_region ?_
    refine o_y (y_assign rfl) rfl rfl ?_
    refine wl_nil ?_
    refine e_seq ?_
    refine w_ret ?_
    refine e_seq_ret ?_
    refine e_ret (ts := [4]) rfl rfl rfl (fun w hw => ?_)
    exact ⟨(), rfl, hw.base, (hw.weak (List.nil_sublist _) (fun s hs => hs)).toNews⟩

set_option maxRecDepth 100000 in
set_option maxHeartbeats 2000000 in
theorem c_SearchDots (s : Sr) (A : Option Addr) (c : Nat) (n : Str) (hsl : s.doms.length ≤ 9223372036854775807) (hnl : n.length ≤ 9223372036854775807) : RC Try.prog 4 #[.agg (srC s A c).toArray, .string (ba n)] [Ch.rd A 1 encs s.doms] (α := Unit) (fun _ => .bool true) (fun _ => []) := by
  refine rc_of_W (args := [.agg (srC s A c).toArray, .string (ba n)]) 119 Try.func4 rfl rfl rfl (fun w0 => ?_)
  refine w_seq ?_
  refine w_region ?_
  refine o_box rfl rfl rfl (fun b1 => ?_)
  refine o_y (y_assign rfl) rfl rfl ?_
  refine wl_nil ?_
  refine e_seq ?_
  refine w_seq ?_
  refine w_seq ?_
  refine w_region ?_
  refine o_callp rfl ent_14 c_lives20 rfl ?_
  refine wl_as (t := 12) (.bool true) rfl (congrArg Value.bool rfl) ?_
  refine o_y (y_not rfl) rfl rfl ?_
  refine wl_nil ?_
  refine e_seq ?_
  refine w_cond_f rfl ?_
  refine w_skip ?_
  refine e_seq ?_
  refine w_seq ?_
  refine w_seq ?_
  refine w_region ?_
  refine o_y (y_loadrs 0 ty_24 rfl rfl rfl rfl) rfl rfl ?_
  refine o_y (y_move rfl) rfl rfl ?_
  refine o_callq rfl ent_15 rfl (c_light20 _ _ _ _ (by omega)) (fun w hw => (rd_cons (rd_S 0 rfl hw) rd_nil)) ?_
  refine wl_splitb (t := 16) rfl (fun h3_2 => ?_) (fun h3_2 => ?_)
  · skip
    refine o_y (y_not rfl) rfl rfl ?_
    refine o_y (y_move rfl) rfl rfl ?_
    refine wl_gyes rfl rfl ?_
    refine o_y (y_loadrs 0 ty_24 rfl rfl rfl rfl) rfl rfl ?_
    refine wl_gyes rfl rfl ?_
    refine o_callq rfl ent_16 rfl (c_search_Check _ _ _) (fun w hw => (rd_cons (rd_S 0 rfl hw) rd_nil)) ?_
    refine wl_gyes rfl rfl ?_
    refine o_y (y_neq rfl rfl) rfl rfl ?_
    refine wl_splitp (t := 21) rfl (fun h3_7 => ?_) (fun h3_7 => ?_)
    · skip
      refine o_y (y_pick_f rfl rfl) rfl rfl ?_
      refine o_y (y_move rfl) rfl rfl ?_
      refine wl_gno rfl rfl rfl rfl ?_
      refine wl_gno rfl rfl rfl rfl ?_
      refine wl_gno rfl rfl rfl rfl ?_
      refine o_y (y_pick_t rfl rfl) rfl rfl ?_
      refine o_y (y_move rfl) rfl rfl ?_
      refine wl_gno rfl rfl rfl rfl ?_
      refine wl_gno rfl rfl rfl rfl ?_
      refine o_y (y_pick_t rfl rfl) rfl rfl ?_
      refine wl_nil ?_
      refine e_seq ?_
      refine w_cond_t rfl ?_
      refine w_seq ?_
      refine w_region ?_
      refine o_y (y_assign rfl) rfl rfl ?_
      refine wl_nil ?_
      refine e_seq ?_
      refine w_ret ?_
      refine e_seq_ret ?_
      refine e_ret (ts := [4]) rfl rfl rfl (fun w hw => ?_)
      exact ⟨(), rfl, hw.base, (hw.weak (List.nil_sublist _) (fun s hs => hs)).toNews⟩
    · skip
      refine o_y (y_pick_f rfl rfl) rfl rfl ?_
      refine o_y (y_move rfl) rfl rfl ?_
      refine wl_gyes rfl rfl ?_
      refine o_y (y_move rfl) rfl rfl ?_
      refine wl_gyes rfl rfl ?_
      refine o_callp rfl ent_17 (c_ref02_Check _) rfl ?_
      refine wl_gyes rfl rfl ?_
      refine o_y (y_neq rfl rfl) rfl rfl ?_
      refine wl_splitp (t := 26) rfl (fun h3_12 => ?_) (fun h3_12 => ?_)
      · skip
        refine o_y (y_pick_f rfl rfl) rfl rfl ?_
        refine o_y (y_move rfl) rfl rfl ?_
        refine wl_gno rfl rfl rfl rfl ?_
        refine wl_gno rfl rfl rfl rfl ?_
        refine o_y (y_pick_t rfl rfl) rfl rfl ?_
        refine wl_nil ?_
        refine e_seq ?_
        refine w_cond_t rfl ?_
        refine w_seq ?_
        refine w_region ?_
        refine o_y (y_assign rfl) rfl rfl ?_
        refine wl_nil ?_
        refine e_seq ?_
        refine w_ret ?_
        refine e_seq_ret ?_
        refine e_ret (ts := [4]) rfl rfl rfl (fun w hw => ?_)
        exact ⟨(), rfl, hw.base, (hw.weak (List.nil_sublist _) (fun s hs => hs)).toNews⟩
      · skip
        refine o_y (y_pick_f rfl rfl) rfl rfl ?_
        refine o_y (y_move rfl) rfl rfl ?_
        refine wl_gyes rfl rfl ?_
        refine o_y (y_move rfl) rfl rfl ?_
        refine wl_gyes rfl rfl ?_
        refine o_y (y_eqls rfl rfl) rfl rfl ?_
        refine wl_splitp (t := 30) rfl (fun h3_16 => ?_) (fun h3_16 => ?_)
        · skip
          refine o_y (y_pick_f rfl rfl) rfl rfl ?_
          refine wl_nil ?_
          refine e_seq ?_
          refine w_cond_t rfl ?_
          refine w_seq ?_
          refine w_region ?_
          refine o_y (y_assign rfl) rfl rfl ?_
          refine wl_nil ?_
          refine e_seq ?_
          refine w_ret ?_
          refine e_seq_ret ?_
          refine e_ret (ts := [4]) rfl rfl rfl (fun w hw => ?_)
          exact ⟨(), rfl, hw.base, (hw.weak (List.nil_sublist _) (fun s hs => hs)).toNews⟩
        · skip
          refine o_y (y_pick_f rfl rfl) rfl rfl ?_
          refine wl_nil ?_
          refine e_seq ?_
          refine w_cond_f rfl ?_
          refine w_skip ?_
          refine e_seq ?_
          refine w_seq ?_
          have hok : Ok s n := ⟨by omega, by omega⟩
          have hn0 : n ≠ [] := h3_16
          obtain ⟨hb1, hb2, hb3, hb4⟩ := hok.bnds
          have hok0 := hok.nd 0 (by omega) (by omega)
          have hok5 := hok.nd 15 (by omega) (by omega)
          have hokf := hok5.fold
          have hl1 := hok0.len2 hok5 rfl hn0
          have hl2 := hok5.foldLen
          have hp0 := hok0.pos
          have hp5 : (eachS { s with ndots := 15 } n).length ≤ s.doms.length + 1 := hok5.len
          have hlp := labs_pos hok.n0 hn0
          refine w_region ?_
          refine o_y (y_field fa_24_0 rfl) rfl rfl ?_
          refine o_store ty_3 rfl rfl rfl .z rfl rfl rfl rfl ?_
          refine wl_nil ?_
          refine e_seq ?_
          refine w_seq ?_
          refine w_region ?_
          refine o_y (y_loadrs 0 ty_24 rfl rfl rfl rfl) rfl rfl ?_
          refine o_y (y_move rfl) rfl rfl ?_
          refine o_callr1 rfl ent_18 rfl (c_search_Names { s with ndots := 0 } _ _ n) (fun w hw => (rd_cons (rd_S 0 rfl hw) rd_nil)) (fun ⟨A1, c1⟩ => ?_)
          refine o_y (y_move rfl) rfl rfl ?_
          refine o_y (y_extract rfl rfl) rfl rfl ?_
          refine o_y (y_extract rfl rfl) rfl rfl ?_
          refine o_y (y_assign rfl) rfl rfl ?_
          refine o_y (y_assign rfl) rfl rfl ?_
          refine wl_nil ?_
          refine e_seq ?_
          refine w_seq ?_
          refine w_region ?_
          refine o_y (y_field fa_24_0 rfl) rfl rfl ?_
          refine o_store ty_3 rfl rfl rfl (.s (.z)) rfl rfl rfl rfl ?_
          refine wl_nil ?_
          refine e_seq ?_
          refine w_seq ?_
          refine w_region ?_
          refine o_y (y_loadrs 1 ty_24 rfl rfl rfl rfl) rfl rfl ?_
          refine o_y (y_move rfl) rfl rfl ?_
          refine o_callr1 rfl ent_18 rfl (c_search_Names { s with ndots := 15 } _ _ n) (fun w hw => (rd_cons (rd_S 0 rfl hw) rd_nil)) (fun ⟨A2, c2⟩ => ?_)
          refine o_y (y_move rfl) rfl rfl ?_
          refine o_y (y_extract rfl rfl) rfl rfl ?_
          refine o_y (y_extract rfl rfl) rfl rfl ?_
          refine o_y (y_assign rfl) rfl rfl ?_
          refine o_y (y_assign rfl) rfl rfl ?_
          refine wl_nil ?_
          refine e_seq ?_
          refine w_seq ?_
          refine w_draw 9 rfl mixed ?_
          refine a_take (i := 0) rfl wanted_none (y_loadrs 2 ty_24 rfl rfl rfl rfl) (fun w h => h) (fun w h => h) rfl (pk_seq pk_fn) (by kernel_rfl) rfl ?_
          refine a_take (i := 1) rfl wanted_none (y_move rfl) (fun w h => h) (fun w h => h) rfl (pk_seq pk_fn) (by kernel_rfl) rfl ?_
          refine a_one (i := 2) rfl rfl rfl (tame_call rfl ent_22) (by kernel_rfl) rfl ?_
          refine o_callp rfl ent_22 (p_ref02_Fold _ (by omega)) rfl ?_
          refine wl_nil ?_
          refine e_one (fun w h => h) ?_
          refine a_one (i := 3) rfl rfl rfl (tame_call rfl ent_18) (by kernel_rfl) rfl ?_
          refine o_callr1 rfl ent_18 rfl (c_search_Names { s with ndots := 15 } _ _ (foldN n)) (fun w hw => (rd_cons (rd_S 0 rfl hw) rd_nil)) (fun ⟨A3, c3⟩ => ?_)
          refine wl_nil ?_
          refine e_one (fun w h => h.weak (.cons _ (List.Sublist.refl _)) (fun s hs => hs)) ?_
          refine a_take (i := 4) rfl wanted_none (y_move rfl) (fun w h => h.weak (.cons _ (List.Sublist.refl _)) (fun s hs => hs)) (fun w h => h) rfl (pk_seq pk_fn) (by kernel_rfl) rfl ?_
          refine a_take (i := 5) rfl wanted_none (y_extract rfl rfl) (fun w h => h.weak (.cons _ (List.Sublist.refl _)) (fun s hs => hs)) (fun w h => h) rfl (pk_seq pk_fn) (by kernel_rfl) rfl ?_
          refine a_take (i := 6) rfl wanted_none (y_extract rfl rfl) (fun w h => h.weak (.cons _ (List.Sublist.refl _)) (fun s hs => hs)) (fun w h => h) rfl (pk_seq pk_fn) (by kernel_rfl) rfl ?_
          refine a_take (i := 7) rfl wanted_none (y_assign rfl) (fun w h => h.weak (.cons _ (List.Sublist.refl _)) (fun s hs => hs)) (fun w h => h) rfl (pk_seq pk_fn) (by kernel_rfl) rfl ?_
          refine a_take (i := 8) rfl wanted_none (y_assign rfl) (fun w h => h.weak (.cons _ (List.Sublist.refl _)) (fun s hs => hs)) (fun w h => h) rfl (pk_seq pk_fn) (by kernel_rfl) rfl ?_
          refine a_done (by kernel_rfl) ?_
          refine e_seq ?_
          refine w_seq ?_
          refine w_seq ?_
          refine w_region ?_
          refine o_y (y_move rfl) rfl rfl ?_
          refine o_y (y_neq rfl rfl) rfl rfl ?_
          refine wl_af (t := 54) rfl (fun h => h hok0.names) ?_
          refine o_y (y_move rfl) rfl rfl ?_
          refine wl_gyes rfl rfl ?_
          refine o_y (y_move rfl) rfl rfl ?_
          refine wl_gyes rfl rfl ?_
          refine o_y (y_neq rfl rfl) rfl rfl ?_
          refine wl_af (t := 57) rfl (fun h => h hok5.names) ?_
          refine o_y (y_pick_f rfl rfl) rfl rfl ?_
          refine o_y (y_move rfl) rfl rfl ?_
          refine wl_gyes rfl rfl ?_
          refine o_y (y_move rfl) rfl rfl ?_
          refine wl_gyes rfl rfl ?_
          refine o_y (y_neq rfl rfl) rfl rfl ?_
          refine wl_af (t := 61) rfl (fun h => h hokf.names) ?_
          refine o_y (y_pick_f rfl rfl) rfl rfl ?_
          refine o_y (y_move rfl) rfl rfl ?_
          refine wl_gyes rfl rfl ?_
          refine o_y (y_move rfl) rfl rfl ?_
          refine wl_gyes rfl rfl ?_
          refine o_y (y_lenl Try.underlying22 rfl) rfl rfl ?_
          refine wl_gyes rfl rfl ?_
          refine o_y (y_move rfl) rfl rfl ?_
          refine wl_gyes rfl rfl ?_
          refine o_y (y_lenl Try.underlying22 rfl) rfl rfl ?_
          refine wl_gyes rfl rfl ?_
          refine o_y (y_neq rfl rfl) rfl rfl ?_
          refine wl_af (t := 68) rfl (by omega) ?_
          refine o_y (y_pick_f rfl rfl) rfl rfl ?_
          refine o_y (y_move rfl) rfl rfl ?_
          refine wl_gyes rfl rfl ?_
          refine o_y (y_move rfl) rfl rfl ?_
          refine wl_gyes rfl rfl ?_
          refine o_y (y_lenl Try.underlying22 rfl) rfl rfl ?_
          refine wl_gyes rfl rfl ?_
          refine o_y (y_move rfl) rfl rfl ?_
          refine wl_gyes rfl rfl ?_
          refine o_y (y_lenl Try.underlying22 rfl) rfl rfl ?_
          refine wl_gyes rfl rfl ?_
          refine o_y (y_neq rfl rfl) rfl rfl ?_
          refine wl_af (t := 75) rfl (by omega) ?_
          refine o_y (y_pick_f rfl rfl) rfl rfl ?_
          refine o_y (y_move rfl) rfl rfl ?_
          refine wl_gyes rfl rfl ?_
          refine o_y (y_move rfl) rfl rfl ?_
          refine wl_gyes rfl rfl ?_
          refine o_y (y_lenl Try.underlying22 rfl) rfl rfl ?_
          refine wl_gyes rfl rfl ?_
          refine o_y (y_eql rfl rfl) rfl rfl ?_
          refine wl_af (t := 80) rfl (by omega) ?_
          refine o_y (y_pick_f rfl rfl) rfl rfl ?_
          refine o_y (y_move rfl) rfl rfl ?_
          refine wl_gyes rfl rfl ?_
          refine o_y (y_move rfl) rfl rfl ?_
          refine wl_gyes rfl rfl ?_
          refine o_y (y_ixm (k := 0) Try.underlying22 ty_25 rfl rfl (rs_L 2 rfl) rfl (by omega)) rfl rfl ?_
          refine wl_gyes rfl rfl ?_
          refine o_y (y_ldm0 (k := 0) enc_s ([] : Str) ty_25 rfl (rs_L 2 rfl) (by omega) rfl rfl) rfl rfl ?_
          refine wl_gyes rfl rfl ?_
          refine o_y (y_move rfl) rfl rfl ?_
          refine wl_gyes rfl rfl ?_
          refine o_y (y_neqs rfl rfl) rfl rfl ?_
          refine wl_af (t := 87) rfl (fun h => h (first_own hok0 (.inr (by show (0 : Int) ≤ _; omega)))) ?_
          refine o_y (y_pick_f rfl rfl) rfl rfl ?_
          refine wl_nil ?_
          refine e_seq ?_
          refine w_cond_f rfl ?_
          refine w_skip ?_
          refine e_seq ?_
          refine w_seq ?_
          refine w_seq ?_
          refine w_region ?_
          refine o_y (y_assign rfl) rfl rfl ?_
          refine wl_nil ?_
          refine e_seq ?_
          refine w_block ?_
          refine w_loop0 (σ := Nat) [4, 11, 89, 90, 91, 92, 93, 94, 95, 96, 97, 98, 99, 100, 101, 102, 103, 104] (fun k => k ≤ (eachS { s with ndots := 15 } n).length) (fun k => (eachS { s with ndots := 15 } n).length - k) (fun k => [(11, .int .i64 k)]) (0) ?_ ⟨rfl, trivial⟩ (fun k hI => ?_)
          · exact Nat.zero_le _
          refine w_seq ?_
          refine w_seq ?_
          refine w_region ?_
          refine o_y (y_move rfl) rfl rfl ?_
          refine o_y (y_move rfl) rfl rfl ?_
          refine o_y (y_lenl Try.underlying22 rfl) rfl rfl ?_
          refine o_y (y_lss rfl rfl) rfl rfl ?_
          refine wl_splitp (t := 92) rfl (fun h13_3 => ?_) (fun h13_3 => ?_)
          · skip
            refine wl_nil ?_
            refine e_seq ?_
            refine w_cond_t rfl ?_
            refine w_skip ?_
            refine e_seq ?_
            refine w_seq ?_
            refine w_block ?_
            refine w_seq ?_
            refine w_draw 10 rfl mixed ?_
            refine a_take (i := 0) rfl wanted_none (y_move rfl) (fun w h => h) (fun w h => h) rfl (pk_seq (pk_blk (pk_seq (pk_loop (pk_blk (pk_seq pk_fn)))))) (by kernel_rfl) rfl ?_
            refine a_take (i := 1) rfl wanted_none (y_move rfl) (fun w h => h) (fun w h => h) rfl (pk_seq (pk_blk (pk_seq (pk_loop (pk_blk (pk_seq pk_fn)))))) (by kernel_rfl) rfl ?_
            refine a_take (i := 2) rfl wanted_none (y_ixm  Try.underlying22 ty_25 rfl rfl (rs_L 1 rfl) rfl (by omega)) (fun w h => h) (fun w h => h) rfl (pk_seq (pk_blk (pk_seq (pk_loop (pk_blk (pk_seq pk_fn)))))) (by kernel_rfl) rfl ?_
            refine a_take (i := 3) rfl wanted_none (y_ldm0 enc_s ([] : Str) ty_25 rfl (rs_L 1 rfl) (by omega) rfl rfl) (fun w h => h) (fun w h => h) rfl (pk_seq (pk_blk (pk_seq (pk_loop (pk_blk (pk_seq pk_fn)))))) (by kernel_rfl) rfl ?_
            refine a_take (i := 4) rfl wanted_none (y_move rfl) (fun w h => h) (fun w h => h) rfl (pk_seq (pk_blk (pk_seq (pk_loop (pk_blk (pk_seq pk_fn)))))) (by kernel_rfl) rfl ?_
            refine a_take (i := 5) rfl wanted_none (y_move rfl) (fun w h => h) (fun w h => h) rfl (pk_seq (pk_blk (pk_seq (pk_loop (pk_blk (pk_seq pk_fn)))))) (by kernel_rfl) rfl ?_
            refine a_take (i := 6) rfl wanted_none (y_ixm  Try.underlying22 ty_25 rfl rfl (rs_L 0 rfl) rfl (by omega)) (fun w h => h) (fun w h => h) rfl (pk_seq (pk_blk (pk_seq (pk_loop (pk_blk (pk_seq pk_fn)))))) (by kernel_rfl) rfl ?_
            refine a_take (i := 7) rfl wanted_none (y_ldm0 enc_s ([] : Str) ty_25 rfl (rs_L 0 rfl) (by omega) rfl rfl) (fun w h => h) (fun w h => h) rfl (pk_seq (pk_blk (pk_seq (pk_loop (pk_blk (pk_seq pk_fn)))))) (by kernel_rfl) rfl ?_
            refine a_one (i := 8) rfl rfl rfl (tame_call rfl ent_20) (by kernel_rfl) rfl ?_
            refine o_callp rfl ent_20 (c_ref02_Same _ _ (hok5.xlen _ (mem_getD (by omega))) (hokf.xlen _ (mem_getD (by omega)))) rfl ?_
            refine wl_nil ?_
            refine e_one (fun w h => h) ?_
            refine wa_as (t := 103) (.bool true) rfl (congrArg Value.bool (same2_yes (hok5.xs (mem_getD (by omega))).1 (hokf.xs (mem_getD (by omega))).1 (map_getD hok5.each_fold (by omega)))) ?_
            refine a_take (i := 9) rfl wanted_none (y_not rfl) (fun w h => h) (fun w h => h) rfl (pk_seq (pk_blk (pk_seq (pk_loop (pk_blk (pk_seq pk_fn)))))) (by kernel_rfl) rfl ?_
            refine a_done (by kernel_rfl) ?_
            refine e_seq ?_
            refine w_cond_f rfl ?_
            refine w_skip ?_
            refine e_blk ?_
            refine e_seq ?_
            refine w_region ?_
            refine o_y (y_move rfl) rfl rfl ?_
            refine o_y (y_addi rfl rfl (by omega) (by omega)) rfl rfl ?_
            refine o_y (y_assign rfl) rfl rfl ?_
            refine wl_nil ?_
            refine e_back (k + 1) ?_ ?_ ⟨rfl, trivial⟩ (by repeat (first | exact trivial | refine ⟨rfl, ?_⟩)) (fun w h => h)
            · omega
            · omega
          · skip
            refine wl_nil ?_
            refine e_seq ?_
            refine w_cond_f rfl ?_
            refine w_exit ?_
            refine e_seq_exit ?_
            refine e_loop_exit ?_
            refine e_blk_hit ?_
            refine e_seq ?_
            refine w_seq ?_
            refine w_region ?_
            refine o_y (y_move rfl) rfl rfl ?_
            refine o_callr1 rfl ent_21 rfl (c_ref02_Labels _) (fun w hw => rd_nil) (fun ⟨A4, c4⟩ => ?_)
            refine o_y (y_lenl Try.underlying36 rfl) rfl rfl ?_
            refine o_y (y_gtr rfl rfl) rfl rfl ?_
            refine wl_splitp (t := 108) rfl (fun h17_3 => ?_) (fun h17_3 => ?_)
            · skip
              refine o_y (y_move rfl) rfl rfl ?_
              refine wl_gno rfl rfl rfl rfl ?_
              refine wl_gno rfl rfl rfl rfl ?_
              refine wl_gno rfl rfl rfl rfl ?_
              refine wl_gno rfl rfl rfl rfl ?_
              refine wl_gno rfl rfl rfl rfl ?_
              refine wl_gno rfl rfl rfl rfl ?_
              refine wl_gno rfl rfl rfl rfl ?_
              refine wl_gno rfl rfl rfl rfl ?_
              refine o_y (y_pick_t rfl rfl) rfl rfl ?_
              refine o_y (y_assign rfl) rfl rfl ?_
              refine wl_nil ?_
              refine e_seq ?_
              refine w_ret ?_
              refine e_ret (ts := [4]) rfl rfl rfl (fun w hw => ?_)
              exact ⟨(), rfl, hw.base, (hw.weak (List.nil_sublist _) (fun s hs => hs)).toNews⟩
            · skip
              refine o_y (y_move rfl) rfl rfl ?_
              refine wl_gyes rfl rfl ?_
              refine o_y (y_move rfl) rfl rfl ?_
              refine wl_gyes rfl rfl ?_
              refine o_y (y_move rfl) rfl rfl ?_
              refine wl_gyes rfl rfl ?_
              refine o_y (y_lenl Try.underlying22 rfl) rfl rfl ?_
              refine wl_gyes rfl rfl ?_
              refine o_y (y_subi rfl rfl (by omega) (by omega)) rfl rfl ?_
              refine wl_gyes rfl rfl ?_
              refine o_y (y_ixm (k := (eachS { s with ndots := 15 } n).length - 1) Try.underlying22 ty_25 rfl rfl (rs_L 2 rfl) (by omega) (by omega)) rfl rfl ?_
              refine wl_gyes rfl rfl ?_
              refine o_y (y_ldm0 enc_s ([] : Str) ty_25 rfl (rs_L 2 rfl) (by omega) rfl rfl) rfl rfl ?_
              refine wl_gyes rfl rfl ?_
              refine o_y (y_move rfl) rfl rfl ?_
              refine wl_gyes rfl rfl ?_
              refine o_y (y_eqls rfl rfl) rfl rfl ?_
              refine wl_at (t := 117) rfl (last_own hok5 (own_no hn0 (by show ¬ (15 : Int) ≤ _; omega))) ?_
              refine o_y (y_pick_f rfl rfl) rfl rfl ?_
              refine o_y (y_assign rfl) rfl rfl ?_
              refine wl_nil ?_
              refine e_seq ?_
              refine w_ret ?_
              refine e_ret (ts := [4]) rfl rfl rfl (fun w hw => ?_)
              exact ⟨(), rfl, hw.base, (hw.weak (List.nil_sublist _) (fun s hs => hs)).toNews⟩
  · skip
    refine o_y (y_not rfl) rfl rfl ?_
    refine o_y (y_move rfl) rfl rfl ?_
    refine wl_gno rfl rfl rfl rfl ?_
    refine wl_gno rfl rfl rfl rfl ?_
    refine wl_gno rfl rfl rfl rfl ?_
    refine o_y (y_pick_t rfl rfl) rfl rfl ?_
    refine o_y (y_move rfl) rfl rfl ?_
    refine wl_gno rfl rfl rfl rfl ?_
    refine wl_gno rfl rfl rfl rfl ?_
    refine wl_gno rfl rfl rfl rfl ?_
    refine o_y (y_pick_t rfl rfl) rfl rfl ?_
    refine o_y (y_move rfl) rfl rfl ?_
    refine wl_gno rfl rfl rfl rfl ?_
    refine wl_gno rfl rfl rfl rfl ?_
    refine o_y (y_pick_t rfl rfl) rfl rfl ?_
    refine wl_nil ?_
    refine e_seq ?_
    refine w_cond_t rfl ?_
    refine w_seq ?_
    refine w_region ?_
    refine o_y (y_assign rfl) rfl rfl ?_
    refine wl_nil ?_
    refine e_seq ?_
    refine w_ret ?_
    refine e_seq_ret ?_
    refine e_ret (ts := [4]) rfl rfl rfl (fun w hw => ?_)
    exact ⟨(), rfl, hw.base, (hw.weak (List.nil_sublist _) (fun s hs => hs)).toNews⟩


theorem dc_names {w : World} : Dc Try.prog w 22 (fun p : List Str × Option Addr × Nat => [.slice p.2.1 p.1.length p.2.2]) (fun p => Ch.rd p.2.1 1 encs p.1 :: p.1.flatMap (fun _ => [])) (fun p => p.1.length ≤ 9223372036854775807 ∧ ∀ s ∈ p.1, s.length ≤ 9223372036854775807) := dc_slice Try.underlying22 (by kernel_rfl) (by decide) enc_s (dc_str Try.underlying25)


theorem dc_sr {w : World} : Dc Try.prog w 24 (α := Sr × Option Addr × Nat) (fun q => srC q.1 q.2.1 q.2.2) (fun q => [Ch.rd q.2.1 1 encs q.1.doms]) (fun q => q.1.doms.length ≤ 9223372036854775807) := fun H enc base sp hd fuel cs x h => by
  obtain ⟨xs, n, rfl, _, hcl, hxl, hf⟩ := DataW.trod_struct Try.underlying24 h
  have hcl2 : cs.length = 2 := hcl.trans (by kernel_rfl)
  obtain ⟨x0, c0, r0, o0⟩ := dc_field hxl hf 0 (ft := 3) (off := 0) (k := 1) (by kernel_rfl) (by kernel_rfl) (dc_int Try.underlying3)
  obtain ⟨⟨x1, A, c⟩, c1, r1, o1⟩ := dc_field hxl hf 1 (ft := 22) (off := 1) (k := 1) (by kernel_rfl) (by kernel_rfl) dc_names
  have hcs := cut0 (cutc c0 (cutc c1 (cutn hcl2) rfl) rfl)
  exact ⟨(⟨x0, x1⟩, A, c), hcs, rd_cons (r1 _ List.mem_cons_self) nofun, o1.1⟩
end Go.Proofs.Ytckfjfnkombelaa
