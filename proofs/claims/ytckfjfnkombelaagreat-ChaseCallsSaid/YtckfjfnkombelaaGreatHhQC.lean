/- the reference of chains -/
import Derived.Test.YtckfjfnkombelaaGreatHcQC
import Derived.Test.YtckfjfnkombelaaGreatLqQC
namespace Go.Proofs.YtckfjfnkombelaaGreat
open Go.RowKit Go.Shelf
set_option linter.unusedVariables false
set_option linter.unusedSimpArgs false

theorem ent_15 : Enters Tryz.prog 15 := enters_of Tryz.func15 (by kernel_rfl) rfl
theorem ent_19 : Enters Tryz.prog 19 := enters_of Tryz.func19 (by kernel_rfl) rfl

theorem c_ref21_Last (l : List Str) (A : Option Addr) (c : Nat) (cs : Int) (ce : Le) (hl : l.length ≤ 1000000000) : RC Tryz.prog 36 #[.agg (chC l.length A c cs ce).toArray] [Ch.rd A 1 encs l] (α := Unit) (fun _ => .string (ba (l.getD (l.length - 1) []))) (fun _ => []) := by
  refine rc_of_W (args := [.agg (chC l.length A c cs ce).toArray]) 15 Tryz.func36 rfl rfl rfl (fun w0 => ?_)
  refine w_seq ?_
  refine w_region ?_
  refine o_box rfl rfl rfl (fun b1 => ?_)
  refine o_y (y_assign rfl) rfl rfl ?_
  refine wl_nil ?_
  refine e_seq ?_
  refine w_seq ?_
  refine w_seq ?_
  refine w_region ?_
  refine o_y (y_field fa_64_0 rfl) rfl rfl ?_
  refine o_y (y_loadr 0 ty_59 rfl rfl rfl) rfl rfl ?_
  refine o_y (y_lenl Tryz.underlying59 rfl) rfl rfl ?_
  refine o_y (y_eql rfl rfl) rfl rfl ?_
  refine wl_splitp (t := 6) rfl (fun h1_3 => ?_) (fun h1_3 => ?_)
  · skip
    refine wl_nil ?_
    refine e_seq ?_
    refine w_cond_t rfl ?_
    refine w_seq ?_
    refine w_region ?_
    refine o_y (y_assign rfl) rfl rfl ?_
    refine wl_nil ?_
    refine e_seq ?_
    refine w_ret ?_
    refine e_seq_ret ?_
    refine e_ret (ts := [2]) rfl rfl rfl (fun w hw => ?_)
    have hz : l = [] := List.length_eq_zero_iff.1 (by omega)
    subst hz
    exact ⟨(), rfl, hw.base, (hw.weak (List.nil_sublist _) (fun s hs => hs)).toNews⟩
  · skip
    refine wl_nil ?_
    refine e_seq ?_
    refine w_cond_f rfl ?_
    refine w_skip ?_
    refine e_seq ?_
    refine w_seq ?_
    refine w_region ?_
    refine o_y (y_field fa_64_0 rfl) rfl rfl ?_
    refine o_y (y_loadr 0 ty_59 rfl rfl rfl) rfl rfl ?_
    refine o_y (y_field fa_64_0 rfl) rfl rfl ?_
    refine o_y (y_loadr 0 ty_59 rfl rfl rfl) rfl rfl ?_
    refine o_y (y_lenl Tryz.underlying59 rfl) rfl rfl ?_
    refine o_y (y_subi rfl rfl (by omega) (by omega)) rfl rfl ?_
    refine o_y (y_ixm (k := (l.length - 1)) Tryz.underlying59 ty_26 rfl rfl (rs_S 0 rfl) (by omega) (by omega)) rfl rfl ?_
    refine o_y (y_ldm0 enc_s ([] : Str) ty_26 rfl (rs_S 0 rfl) (by omega) rfl rfl) rfl rfl ?_
    refine o_y (y_assign rfl) rfl rfl ?_
    refine wl_nil ?_
    refine e_seq ?_
    refine w_ret ?_
    refine e_ret (ts := [2]) rfl rfl rfl (fun w hw => ?_)
    exact ⟨(), rfl, hw.base, (hw.weak (List.nil_sublist _) (fun s hs => hs)).toNews⟩

set_option maxRecDepth 100000 in
theorem c_ref21_Same (l1 : List Str) (A1 : Option Addr) (c1 : Nat) (s1 : Int) (e1 : Le) (l2 : List Str) (A2 : Option Addr) (c2 : Nat) (s2 : Int) (e2 : Le) (hl : l1.length ≤ 1000000000) (ha : e1.e.addrs.length ≤ 1000000000) (hp : e1.e.ports.length ≤ 1000000000) : RC Tryz.prog 32 #[.agg (chC l1.length A1 c1 s1 e1).toArray, .agg (chC l2.length A2 c2 s2 e2).toArray] [Ch.rd A1 1 encs l1, Ch.rd e1.A 3 adC e1.e.addrs, Ch.rd e1.B 1 enci e1.e.ports, Ch.rd A2 1 encs l2, Ch.rd e2.A 3 adC e2.e.addrs, Ch.rd e2.B 1 enci e2.e.ports] (α := Unit) (fun _ => .bool (decide (s1 = s2) && decide (l1 = l2) && decide (e1.e = e2.e))) (fun _ => []) := by
  refine rc_of_W (args := [.agg (chC l1.length A1 c1 s1 e1).toArray, .agg (chC l2.length A2 c2 s2 e2).toArray]) 46 Tryz.func32 rfl rfl rfl (fun w0 => ?_)
  refine w_seq ?_
  refine w_region ?_
  refine o_box rfl rfl rfl (fun b1 => ?_)
  refine o_box rfl rfl rfl (fun b2 => ?_)
  refine o_y (y_assign rfl) rfl rfl ?_
  refine wl_nil ?_
  refine e_seq ?_
  refine w_seq ?_
  refine w_seq ?_
  refine w_region ?_
  refine o_y (y_field fa_64_1 rfl) rfl rfl ?_
  refine o_y (y_loadr 1 ty_3 rfl rfl rfl) rfl rfl ?_
  refine o_y (y_field fa_64_1 rfl) rfl rfl ?_
  refine o_y (y_loadr 0 ty_3 rfl rfl rfl) rfl rfl ?_
  refine o_y (y_neq rfl rfl) rfl rfl ?_
  refine wl_splitp (t := 10) rfl (fun h1_4 => ?_) (fun h1_4 => ?_)
  · skip
    refine o_y (y_move rfl) rfl rfl ?_
    refine wl_gno rfl rfl rfl rfl ?_
    refine wl_gno rfl rfl rfl rfl ?_
    refine wl_gno rfl rfl rfl rfl ?_
    refine wl_gno rfl rfl rfl rfl ?_
    refine wl_gno rfl rfl rfl rfl ?_
    refine wl_gno rfl rfl rfl rfl ?_
    refine wl_gno rfl rfl rfl rfl ?_
    refine o_y (y_pick_t rfl rfl) rfl rfl ?_
    refine o_y (y_move rfl) rfl rfl ?_
    refine wl_gno rfl rfl rfl rfl ?_
    refine wl_gno rfl rfl rfl rfl ?_
    refine wl_gno rfl rfl rfl rfl ?_
    refine wl_gno rfl rfl rfl rfl ?_
    refine wl_gno rfl rfl rfl rfl ?_
    refine wl_gno rfl rfl rfl rfl ?_
    refine o_y (y_pick_t rfl rfl) rfl rfl ?_
    refine wl_nil ?_
    refine e_seq ?_
    refine w_cond_t rfl ?_
    refine w_seq ?_
    refine w_region ?_
    refine o_y (y_assign rfl) rfl rfl ?_
    refine wl_nil ?_
    refine e_seq ?_
    refine w_ret ?_
    refine e_seq_ret ?_
    refine e_ret (ts := [4]) rfl rfl rfl (fun w hw => ?_)
    refine ⟨(), ?_, hw.base, (hw.weak (List.nil_sublist _) (fun s hs => hs)).toNews⟩
    show Ending.returned (.bool _) = _
    congr 2
    first
      | (have hA : l1 = l2 := by
           have := hI.2
           rw [show k = l1.length by omega, List.take_length, List.take_of_length_le (by omega)] at this
           exact this
         have hs : s1 = s2 := by omega
         rw [decide_eq_true hA, decide_eq_true hs, h1_19]
         rfl)
      | (have hne : l1 ≠ l2 := fun h => by
           subst h
           exact h6_10 rfl
         rw [decide_eq_false hne]
         simp
         done)
      | (rw [h1_19]
         simp
         done)
      | (have hne : l1 ≠ l2 := fun h => by
           subst h
           omega
         rw [decide_eq_false hne]
         simp
         done)
      | (have hne : s1 ≠ s2 := by omega
         rw [decide_eq_false hne]
         rfl)
      | (trace_state; fail)
  · skip
    refine o_y (y_move rfl) rfl rfl ?_
    refine wl_gyes rfl rfl ?_
    refine o_y (y_field fa_64_0 rfl) rfl rfl ?_
    refine wl_gyes rfl rfl ?_
    refine o_y (y_loadr 1 ty_59 rfl rfl rfl) rfl rfl ?_
    refine wl_gyes rfl rfl ?_
    refine o_y (y_lenl Tryz.underlying59 rfl) rfl rfl ?_
    refine wl_gyes rfl rfl ?_
    refine o_y (y_field fa_64_0 rfl) rfl rfl ?_
    refine wl_gyes rfl rfl ?_
    refine o_y (y_loadr 0 ty_59 rfl rfl rfl) rfl rfl ?_
    refine wl_gyes rfl rfl ?_
    refine o_y (y_lenl Tryz.underlying59 rfl) rfl rfl ?_
    refine wl_gyes rfl rfl ?_
    refine o_y (y_neq rfl rfl) rfl rfl ?_
    refine wl_splitp (t := 18) rfl (fun h1_12 => ?_) (fun h1_12 => ?_)
    · skip
      refine o_y (y_pick_f rfl rfl) rfl rfl ?_
      refine o_y (y_move rfl) rfl rfl ?_
      refine wl_gno rfl rfl rfl rfl ?_
      refine wl_gno rfl rfl rfl rfl ?_
      refine wl_gno rfl rfl rfl rfl ?_
      refine wl_gno rfl rfl rfl rfl ?_
      refine wl_gno rfl rfl rfl rfl ?_
      refine wl_gno rfl rfl rfl rfl ?_
      refine o_y (y_pick_t rfl rfl) rfl rfl ?_
      refine wl_nil ?_
      refine e_seq ?_
      refine w_cond_t rfl ?_
      refine w_seq ?_
      refine w_region ?_
      refine o_y (y_assign rfl) rfl rfl ?_
      refine wl_nil ?_
      refine e_seq ?_
      refine w_ret ?_
      refine e_seq_ret ?_
      refine e_ret (ts := [4]) rfl rfl rfl (fun w hw => ?_)
      refine ⟨(), ?_, hw.base, (hw.weak (List.nil_sublist _) (fun s hs => hs)).toNews⟩
      show Ending.returned (.bool _) = _
      congr 2
      first
        | (have hA : l1 = l2 := by
             have := hI.2
             rw [show k = l1.length by omega, List.take_length, List.take_of_length_le (by omega)] at this
             exact this
           have hs : s1 = s2 := by omega
           rw [decide_eq_true hA, decide_eq_true hs, h1_19]
           rfl)
        | (have hne : l1 ≠ l2 := fun h => by
             subst h
             exact h6_10 rfl
           rw [decide_eq_false hne]
           simp
           done)
        | (rw [h1_19]
           simp
           done)
        | (have hne : l1 ≠ l2 := fun h => by
             subst h
             omega
           rw [decide_eq_false hne]
           simp
           done)
        | (have hne : s1 ≠ s2 := by omega
           rw [decide_eq_false hne]
           rfl)
        | (trace_state; fail)
    · skip
      refine o_y (y_pick_f rfl rfl) rfl rfl ?_
      refine o_y (y_move rfl) rfl rfl ?_
      refine wl_gyes rfl rfl ?_
      refine o_y (y_field fa_64_2 rfl) rfl rfl ?_
      refine wl_gyes rfl rfl ?_
      refine o_y (y_loadrs 1 ty_34 rfl rfl rfl rfl) rfl rfl ?_
      refine wl_gyes rfl rfl ?_
      refine o_y (y_field fa_64_2 rfl) rfl rfl ?_
      refine wl_gyes rfl rfl ?_
      refine o_y (y_loadrs 0 ty_34 rfl rfl rfl rfl) rfl rfl ?_
      refine wl_gyes rfl rfl ?_
      refine o_callq rfl ent_19 rfl (c_ref16_Same e1.e e1.A e1.B e1.c e1.d e2.e e2.A e2.B e2.c e2.d (by omega) (by omega)) (fun w hw => (rd_cons (rd_S 1 rfl hw) (rd_cons (rd_S 2 rfl hw) (rd_cons (rd_S 4 rfl hw) (rd_cons (rd_S 5 rfl hw) rd_nil))))) ?_
      refine wl_splitb (t := 25) rfl (fun h1_19 => ?_) (fun h1_19 => ?_)
      · skip
        refine wl_gyes rfl rfl ?_
        refine o_y (y_not rfl) rfl rfl ?_
        refine o_y (y_pick_f rfl rfl) rfl rfl ?_
        refine wl_nil ?_
        refine e_seq ?_
        refine w_cond_f rfl ?_
        refine w_skip ?_
        refine e_seq ?_
        refine w_seq ?_
        refine w_seq ?_
        refine w_region ?_
        refine o_y (y_assign rfl) rfl rfl ?_
        refine wl_nil ?_
        refine e_seq ?_
        refine w_block ?_
        refine w_loop0 (σ := Nat) [4, 5, 28, 29, 30, 31, 32, 33, 34, 35, 36, 37, 38, 39, 40, 41, 42, 43, 44, 45] (fun k => k ≤ l1.length ∧ l1.take k = l2.take k) (fun k => l1.length - k) (fun k => [(5, .int .i64 k)]) (0) ?_ ⟨rfl, trivial⟩ (fun k hI => ?_)
        · exact ⟨Nat.zero_le _, rfl⟩
        refine w_seq ?_
        refine w_seq ?_
        refine w_region ?_
        refine o_y (y_move rfl) rfl rfl ?_
        refine o_y (y_field fa_64_0 rfl) rfl rfl ?_
        refine o_y (y_loadr 1 ty_59 rfl rfl rfl) rfl rfl ?_
        refine o_y (y_lenl Tryz.underlying59 rfl) rfl rfl ?_
        refine o_y (y_lss rfl rfl) rfl rfl ?_
        refine wl_splitp (t := 32) rfl (fun h4_4 => ?_) (fun h4_4 => ?_)
        · skip
          refine wl_nil ?_
          refine e_seq ?_
          refine w_cond_t rfl ?_
          refine w_skip ?_
          refine e_seq ?_
          refine w_seq ?_
          refine w_block ?_
          refine w_seq ?_
          refine w_draw 11 rfl mixed ?_
          refine a_take (i := 0) rfl wanted_none (y_field fa_64_0 rfl) (fun w h => h) (fun w h => h) rfl (pk_seq (pk_blk (pk_seq (pk_loop (pk_blk (pk_seq pk_fn)))))) (by kernel_rfl) rfl ?_
          refine a_take (i := 1) rfl wanted_none (y_loadr 1 ty_59 rfl rfl rfl) (fun w h => h) (fun w h => h) rfl (pk_seq (pk_blk (pk_seq (pk_loop (pk_blk (pk_seq pk_fn)))))) (by kernel_rfl) rfl ?_
          refine a_take (i := 2) rfl wanted_none (y_move rfl) (fun w h => h) (fun w h => h) rfl (pk_seq (pk_blk (pk_seq (pk_loop (pk_blk (pk_seq pk_fn)))))) (by kernel_rfl) rfl ?_
          refine a_take (i := 3) rfl wanted_none (y_ixm  Tryz.underlying59 ty_26 rfl rfl (rs_S 0 rfl) rfl (by omega)) (fun w h => h) (fun w h => h) rfl (pk_seq (pk_blk (pk_seq (pk_loop (pk_blk (pk_seq pk_fn)))))) (by kernel_rfl) rfl ?_
          refine a_take (i := 4) rfl wanted_none (y_ldm0 enc_s ([] : Str) ty_26 rfl (rs_S 0 rfl) (by omega) rfl rfl) (fun w h => h) (fun w h => h) rfl (pk_seq (pk_blk (pk_seq (pk_loop (pk_blk (pk_seq pk_fn)))))) (by kernel_rfl) rfl ?_
          refine a_take (i := 5) rfl wanted_none (y_field fa_64_0 rfl) (fun w h => h) (fun w h => h) rfl (pk_seq (pk_blk (pk_seq (pk_loop (pk_blk (pk_seq pk_fn)))))) (by kernel_rfl) rfl ?_
          refine a_take (i := 6) rfl wanted_none (y_loadr 0 ty_59 rfl rfl rfl) (fun w h => h) (fun w h => h) rfl (pk_seq (pk_blk (pk_seq (pk_loop (pk_blk (pk_seq pk_fn)))))) (by kernel_rfl) rfl ?_
          refine a_take (i := 7) rfl wanted_none (y_move rfl) (fun w h => h) (fun w h => h) rfl (pk_seq (pk_blk (pk_seq (pk_loop (pk_blk (pk_seq pk_fn)))))) (by kernel_rfl) rfl ?_
          refine a_take (i := 8) rfl wanted_none (y_ixm  Tryz.underlying59 ty_26 rfl rfl (rs_S 3 rfl) rfl (by omega)) (fun w h => h) (fun w h => h) rfl (pk_seq (pk_blk (pk_seq (pk_loop (pk_blk (pk_seq pk_fn)))))) (by kernel_rfl) rfl ?_
          refine a_take (i := 9) rfl wanted_none (y_ldm0 enc_s ([] : Str) ty_26 rfl (rs_S 3 rfl) (by omega) rfl rfl) (fun w h => h) (fun w h => h) rfl (pk_seq (pk_blk (pk_seq (pk_loop (pk_blk (pk_seq pk_fn)))))) (by kernel_rfl) rfl ?_
          refine a_take (i := 10) rfl wanted_none (y_neqs rfl rfl) (fun w h => h) (fun w h => h) rfl (pk_seq (pk_blk (pk_seq (pk_loop (pk_blk (pk_seq pk_fn)))))) (by kernel_rfl) rfl ?_
          refine wa_splitp (t := 45) rfl (fun h6_10 => ?_) (fun h6_10 => ?_)
          · skip
            refine a_done (by kernel_rfl) ?_
            refine e_seq ?_
            refine w_cond_t rfl ?_
            refine w_seq ?_
            refine w_region ?_
            refine o_y (y_assign rfl) rfl rfl ?_
            refine wl_nil ?_
            refine e_seq ?_
            refine w_ret ?_
            refine e_blk_ret ?_
            refine e_seq_ret ?_
            refine e_loop_ret ?_
            refine e_blk_ret ?_
            refine e_seq_ret ?_
            refine e_ret (ts := [4]) rfl rfl rfl (fun w hw => ?_)
            refine ⟨(), ?_, hw.base, (hw.weak (List.nil_sublist _) (fun s hs => hs)).toNews⟩
            show Ending.returned (.bool _) = _
            congr 2
            first
              | (have hA : l1 = l2 := by
                   have := hI.2
                   rw [show k = l1.length by omega, List.take_length, List.take_of_length_le (by omega)] at this
                   exact this
                 have hs : s1 = s2 := by omega
                 rw [decide_eq_true hA, decide_eq_true hs, h1_19]
                 rfl)
              | (have hne : l1 ≠ l2 := fun h => by
                   subst h
                   exact h6_10 rfl
                 rw [decide_eq_false hne]
                 simp
                 done)
              | (rw [h1_19]
                 simp
                 done)
              | (have hne : l1 ≠ l2 := fun h => by
                   subst h
                   omega
                 rw [decide_eq_false hne]
                 simp
                 done)
              | (have hne : s1 ≠ s2 := by omega
                 rw [decide_eq_false hne]
                 rfl)
              | (trace_state; fail)
          · skip
            refine a_done (by kernel_rfl) ?_
            refine e_seq ?_
            refine w_cond_f rfl ?_
            refine w_skip ?_
            refine e_blk ?_
            refine e_seq ?_
            refine w_region ?_
            refine o_y (y_move rfl) rfl rfl ?_
            refine o_y (y_addi rfl rfl (by omega) (by omega)) rfl rfl ?_
            refine o_y (y_assign rfl) rfl rfl ?_
            refine wl_nil ?_
            refine e_back (k + 1) ?_ ?_ ⟨rfl, trivial⟩ (by repeat (first | exact trivial | refine ⟨rfl, ?_⟩)) (fun w h => h)
            · exact ⟨by omega, take_eq_succ ([] : Str) (by omega) (by omega) hI.2 (by simpa using h6_10)⟩
            · omega
        · skip
          refine wl_nil ?_
          refine e_seq ?_
          refine w_cond_f rfl ?_
          refine w_exit ?_
          refine e_seq_exit ?_
          refine e_loop_exit ?_
          refine e_blk_hit ?_
          refine e_seq ?_
          refine w_seq ?_
          refine w_region ?_
          refine o_y (y_assign rfl) rfl rfl ?_
          refine wl_nil ?_
          refine e_seq ?_
          refine w_ret ?_
          refine e_ret (ts := [4]) rfl rfl rfl (fun w hw => ?_)
          refine ⟨(), ?_, hw.base, (hw.weak (List.nil_sublist _) (fun s hs => hs)).toNews⟩
          show Ending.returned (.bool _) = _
          congr 2
          first
            | (have hA : l1 = l2 := by
                 have := hI.2
                 rw [show k = l1.length by omega, List.take_length, List.take_of_length_le (by omega)] at this
                 exact this
               have hs : s1 = s2 := by omega
               rw [decide_eq_true hA, decide_eq_true hs, h1_19]
               rfl)
            | (have hne : l1 ≠ l2 := fun h => by
                 subst h
                 exact h6_10 rfl
               rw [decide_eq_false hne]
               simp
               done)
            | (rw [h1_19]
               simp
               done)
            | (have hne : l1 ≠ l2 := fun h => by
                 subst h
                 omega
               rw [decide_eq_false hne]
               simp
               done)
            | (have hne : s1 ≠ s2 := by omega
               rw [decide_eq_false hne]
               rfl)
            | (trace_state; fail)
      · skip
        refine wl_gyes rfl rfl ?_
        refine o_y (y_not rfl) rfl rfl ?_
        refine o_y (y_pick_f rfl rfl) rfl rfl ?_
        refine wl_nil ?_
        refine e_seq ?_
        refine w_cond_t rfl ?_
        refine w_seq ?_
        refine w_region ?_
        refine o_y (y_assign rfl) rfl rfl ?_
        refine wl_nil ?_
        refine e_seq ?_
        refine w_ret ?_
        refine e_seq_ret ?_
        refine e_ret (ts := [4]) rfl rfl rfl (fun w hw => ?_)
        refine ⟨(), ?_, hw.base, (hw.weak (List.nil_sublist _) (fun s hs => hs)).toNews⟩
        show Ending.returned (.bool _) = _
        congr 2
        first
          | (have hA : l1 = l2 := by
               have := hI.2
               rw [show k = l1.length by omega, List.take_length, List.take_of_length_le (by omega)] at this
               exact this
             have hs : s1 = s2 := by omega
             rw [decide_eq_true hA, decide_eq_true hs, h1_19]
             rfl)
          | (have hne : l1 ≠ l2 := fun h => by
               subst h
               exact h6_10 rfl
             rw [decide_eq_false hne]
             simp
             done)
          | (rw [h1_19]
             simp
             done)
          | (have hne : l1 ≠ l2 := fun h => by
               subst h
               omega
             rw [decide_eq_false hne]
             simp
             done)
          | (have hne : s1 ≠ s2 := by omega
             rw [decide_eq_false hne]
             rfl)
          | (trace_state; fail)

def galF (F : Str → Option En) : Str → Option Str := fun k => aliE (F k)
theorem fF_none {F : Str → Option En} {n : Str} {r : Option Le} (h : r.map (·.e) = F n) (hs : r.isSome = false) : F n = none := by
  rw [← h, none_of hs]; rfl
theorem fF_some {F : Str → Option En} {n : Str} {r : Option Le} (h : r.map (·.e) = F n) (hs : r.isSome = true) : F n = some (r.getD le0).e := by
  cases r with
  | none => cases hs
  | some y => exact h.symm
theorem hopO_len (o : Option En) (a b : Str) : (hopO o a b).length ≤ 1 := by
  cases o with
  | none => simp [hopO]
  | some e => unfold hopO; dsimp only; split <;> simp
theorem hopsO_len (F : Str → Option En) : ∀ q : List (Str × Str), (q.flatMap fun p => hopO (F p.1) p.1 p.2).length ≤ q.length
  | [] => by simp
  | p :: r => by
    have h1 := hopsO_len F r
    have h2 := hopO_len (F p.1) p.1 p.2
    rw [List.flatMap_cons, List.length_append, List.length_cons]; omega
theorem ref_mem {l : List Le} {n : Str} {r : Option Le} (h : RefSpec l n r) (hs : r.isSome = true) : r.getD le0 ∈ l := by
  cases r with
  | none => cases hs
  | some y => exact h.1
theorem mem_rr {l : List Le} {n : Str} {r : Option Le} (h : RefSpec l n r) : r.getD le0 ∈ le0 :: l := by
  cases r with
  | none => exact .head _
  | some y => exact .tail _ h.1

set_option maxRecDepth 100000 in
set_option maxHeartbeats 1000000 in
theorem c_ref21_Hops (v : Int) (l : List Le) (F : Option Addr) (d : Nat) (b : Nat) (H : Option Addr) (h : Nat) (Fe : Str → Option En) (hF : ∀ k r, RefSpec l k r → r.map (·.e) = Fe k) (hok : TbOk l) (hlen : l.length ≤ 1000000000) (ns : List Str) (A : Option Addr) (c : Nat) (cs : Int) (ce : Le) (hl : ns.length ≤ 1000000000) (hns : ∀ s ∈ ns, s.length ≤ 1000000000) : RC Tryz.prog 30 #[.pointer (some ⟨b, 0, none⟩), .agg (chC ns.length A c cs ce).toArray] [Ch.row b [.int .i64 v, .slice F l.length d, .slice H 0 h] 116, Ch.rd F 7 elC l, Ch.rall (l.flatMap elR), Ch.rd A 1 encs ns] (α := Option Addr × Nat) (fun p => .slice p.1 (hopsO Fe ns).length p.2) (fun p => [Ch.ls p.1 p.2 75 16 rcC (hopsO Fe ns)]) := by
  refine rc_of_W (args := [.pointer (some ⟨b, 0, none⟩), .agg (chC ns.length A c cs ce).toArray]) 56 Tryz.func30 rfl rfl rfl (fun w0 => ?_)
  refine w_seq ?_
  refine w_region ?_
  refine o_box rfl rfl rfl (fun b1 => ?_)
  refine o_y (y_assign rfl) rfl rfl ?_
  refine wl_nil ?_
  refine e_seq ?_
  refine w_seq ?_
  refine w_region ?_
  refine o_y (y_assign rfl) rfl rfl ?_
  refine wl_nil ?_
  refine e_seq ?_
  refine w_seq ?_
  refine w_seq ?_
  refine w_region ?_
  refine o_y (y_assign rfl) rfl rfl ?_
  refine wl_nil ?_
  refine e_seq ?_
  refine w_block ?_
  refine w_heap (fun w h => h.nilsl 75 16) ?_
  refine w_loop1 (σ := Nat × List Rc × Option Addr × Nat) [5, 6, 7, 8, 9, 10, 11, 12, 13, 14, 15, 16, 17, 18, 19, 20, 21, 22, 23, 24, 25, 26, 27, 28, 29, 30, 31, 32, 33, 34, 35, 36, 37, 38, 39, 40, 41, 42, 43, 44, 45, 46, 47, 48, 49, 50, 51, 52, 53, 54] (fun q => q.1 ≤ ns.length - 1 ∧ q.2.1 = ((pairs ns).take q.1).flatMap (fun p => hopO (Fe p.1) p.1 p.2) ∧ q.2.1.length ≤ q.1) (fun q => ns.length - q.1) (fun q => [(6, .int .i64 q.1), (5, .slice q.2.2.1 q.2.1.length q.2.2.2)]) (fun q => Ch.ls q.2.2.1 q.2.2.2 75 16 rcC q.2.1) ((0, [], none, 0)) ?_ ⟨rfl, rfl, trivial⟩ rfl (fun q hI => ?_)
  · exact ⟨Nat.zero_le _, rfl, Nat.zero_le _⟩
  obtain ⟨k, acc, A5, c5⟩ := q
  dsimp only at hI ⊢
  refine w_seq ?_
  refine w_seq ?_
  refine w_region ?_
  refine o_y (y_move rfl) rfl rfl ?_
  refine o_y (y_addi rfl rfl (by omega) (by omega)) rfl rfl ?_
  refine o_y (y_field fa_64_0 rfl) rfl rfl ?_
  refine o_y (y_loadr 1 ty_59 rfl rfl rfl) rfl rfl ?_
  refine o_y (y_lenl Tryz.underlying59 rfl) rfl rfl ?_
  refine o_y (y_lss rfl rfl) rfl rfl ?_
  refine wl_splitp (t := 14) rfl (fun h3_5 => ?_) (fun h3_5 => ?_)
  · skip
    have hk1 : k + 1 < ns.length := by omega
    have hpt := pairs_take hk1
    have hfm := hopsO_len Fe ((pairs ns).take k)
    have hpl := pairs_len ns
    refine o_y (y_move rfl) rfl rfl ?_
    refine wl_gyes rfl rfl ?_
    refine o_y (y_move rfl) rfl rfl ?_
    refine wl_gyes rfl rfl ?_
    refine o_y (y_nep Tryz.underlying47 rfl rfl) rfl rfl ?_
    refine wl_as (t := 17) (.bool true) rfl (congrArg Value.bool rfl) ?_
    refine o_y (y_pick_t rfl rfl) rfl rfl ?_
    refine wl_nil ?_
    refine e_seq ?_
    refine w_cond_t rfl ?_
    refine w_skip ?_
    refine e_seq ?_
    refine w_seq ?_
    refine w_block ?_
    refine w_seq ?_
    refine w_region ?_
    refine o_y (y_move rfl) rfl rfl ?_
    refine o_y (y_field fa_64_0 rfl) rfl rfl ?_
    refine o_y (y_loadr 1 ty_59 rfl rfl rfl) rfl rfl ?_
    refine o_y (y_move rfl) rfl rfl ?_
    refine o_y (y_ixm  Tryz.underlying59 ty_26 rfl rfl (rs_S 3 rfl) rfl (by omega)) rfl rfl ?_
    refine o_y (y_ldm0 enc_s ([] : Str) ty_26 rfl (rs_S 3 rfl) (by omega) rfl rfl) rfl rfl ?_
    refine o_callr0 rfl ent_15 rfl (c_ref18_Find v l F d b H h (ns.getD k []) hok (by omega) (hns _ (mem_getD (by omega)))) (fun w hw => (rd_cons (rd_S 0 rfl hw) (rd_cons (rd_S 1 rfl hw) (rd_cons (rd_S 2 rfl hw) rd_nil)))) (fun ⟨rr, hrr⟩ => ?_)
    refine o_y (y_move rfl) rfl rfl ?_
    refine o_y (y_extract rfl rfl) rfl rfl ?_
    refine o_y (y_extract rfl rfl) rfl rfl ?_
    refine wl_splitb (t := 30) rfl (fun h5_9 => ?_) (fun h5_9 => ?_)
    · skip
      refine o_alloc ty_34 rfl rfl (fun b3 => ?_)
      refine o_store ty_34 rfl rfl rfl .z rfl rfl rfl rfl ?_
      refine o_y (y_assign rfl) rfl rfl ?_
      refine wl_nil ?_
      refine e_seq ?_
      refine w_seq ?_
      have hFm := hF _ _ hrr
      refine w_region ?_
      refine o_y (y_move rfl) rfl rfl ?_
      refine o_y (y_move rfl) rfl rfl ?_
      refine wl_gyes rfl rfl ?_
      refine o_y (y_field fa_34_1 rfl) rfl rfl ?_
      refine wl_gyes rfl rfl ?_
      refine o_y (y_loadr 0 ty_3 rfl rfl rfl) rfl rfl ?_
      refine wl_gyes rfl rfl ?_
      refine o_y (y_eql rfl rfl) rfl rfl ?_
      refine wl_splitp (t := 35) rfl (fun h6_4 => ?_) (fun h6_4 => ?_)
      · skip
        refine o_y (y_pick_t rfl rfl) rfl rfl ?_
        refine wl_nil ?_
        refine e_seq ?_
        refine w_cond_t rfl ?_
        refine w_drawV 17 mixed ?_
        refine v_take (i := 0) rfl wanted_none (y_move rfl) (fun w h => h) (fun w h => h) rfl (pk_blk (pk_seq (pk_loop (pk_blk (pk_seq pk_fn))))) (by kernel_rfl) rfl ?_
        refine v_take (i := 1) rfl wanted_none (y_field fa_64_0 rfl) (fun w h => h) (fun w h => h) rfl (pk_blk (pk_seq (pk_loop (pk_blk (pk_seq pk_fn))))) (by kernel_rfl) rfl ?_
        refine v_take (i := 2) rfl wanted_none (y_loadr 2 ty_59 rfl rfl rfl) (fun w h => h) (fun w h => h) rfl (pk_blk (pk_seq (pk_loop (pk_blk (pk_seq pk_fn))))) (by kernel_rfl) rfl ?_
        refine v_take (i := 3) rfl wanted_none (y_move rfl) (fun w h => h) (fun w h => h) rfl (pk_blk (pk_seq (pk_loop (pk_blk (pk_seq pk_fn))))) (by kernel_rfl) rfl ?_
        refine v_take (i := 4) rfl wanted_none (y_ixm  Tryz.underlying59 ty_26 rfl rfl (rs_S 3 rfl) rfl (by omega)) (fun w h => h) (fun w h => h) rfl (pk_blk (pk_seq (pk_loop (pk_blk (pk_seq pk_fn))))) (by kernel_rfl) rfl ?_
        refine v_take (i := 5) rfl wanted_none (y_ldm0 enc_s ([] : Str) ty_26 rfl (rs_S 3 rfl) (by omega) rfl rfl) (fun w h => h) (fun w h => h) rfl (pk_blk (pk_seq (pk_loop (pk_blk (pk_seq pk_fn))))) (by kernel_rfl) rfl ?_
        refine v_take (i := 6) rfl wanted_none (y_field fa_34_6 rfl) (fun w h => h) (fun w h => h) rfl (pk_blk (pk_seq (pk_loop (pk_blk (pk_seq pk_fn))))) (by kernel_rfl) rfl ?_
        refine v_take (i := 7) rfl wanted_none (y_loadr 0 ty_32 rfl rfl rfl) (fun w h => h) (fun w h => h) rfl (pk_blk (pk_seq (pk_loop (pk_blk (pk_seq pk_fn))))) (by kernel_rfl) rfl ?_
        refine v_take (i := 8) rfl wanted_none (y_field fa_64_0 rfl) (fun w h => h) (fun w h => h) rfl (pk_blk (pk_seq (pk_loop (pk_blk (pk_seq pk_fn))))) (by kernel_rfl) rfl ?_
        refine v_take (i := 9) rfl wanted_none (y_loadr 2 ty_59 rfl rfl rfl) (fun w h => h) (fun w h => h) rfl (pk_blk (pk_seq (pk_loop (pk_blk (pk_seq pk_fn))))) (by kernel_rfl) rfl ?_
        refine v_take (i := 10) rfl wanted_none (y_move rfl) (fun w h => h) (fun w h => h) rfl (pk_blk (pk_seq (pk_loop (pk_blk (pk_seq pk_fn))))) (by kernel_rfl) rfl ?_
        refine v_take (i := 11) rfl wanted_none (y_addi rfl rfl (by omega) (by omega)) (fun w h => h) (fun w h => h) rfl (pk_blk (pk_seq (pk_loop (pk_blk (pk_seq pk_fn))))) (by kernel_rfl) rfl ?_
        refine v_take (i := 12) rfl wanted_none (y_ixm (k := (k + 1)) Tryz.underlying59 ty_26 rfl rfl (rs_S 3 rfl) (by omega) (by omega)) (fun w h => h) (fun w h => h) rfl (pk_blk (pk_seq (pk_loop (pk_blk (pk_seq pk_fn))))) (by kernel_rfl) rfl ?_
        refine v_take (i := 13) rfl wanted_none (y_ldm0 enc_s ([] : Str) ty_26 rfl (rs_S 3 rfl) (by omega) rfl rfl) (fun w h => h) (fun w h => h) rfl (pk_blk (pk_seq (pk_loop (pk_blk (pk_seq pk_fn))))) (by kernel_rfl) rfl ?_
        refine v_take (i := 14) rfl wanted_none (y_build rfl (bu_73_1 _)) (fun w h => h) (fun w h => h) rfl (pk_blk (pk_seq (pk_loop (pk_blk (pk_seq pk_fn))))) (by kernel_rfl) rfl ?_
        refine v_take (i := 15) rfl wanted_none (y_build rfl (bu_75_0_1_2_3_4 _ _ _ _ _ _ _ _ _ _ _ _ _ _ _ _ _ _)) (fun w h => h) (fun w h => h) rfl (pk_blk (pk_seq (pk_loop (pk_blk (pk_seq pk_fn))))) (by kernel_rfl) rfl ?_
        refine v_one (i := 16) rfl (by kernel_rfl) rfl ?_
        refine o_bsl (vs := [_]) ([(⟨ns.getD k [], 5, 1, (rr.getD le0).e.ttl, { dt0 with name := ns.getD (k + 1) [] }⟩ : Rc)] : List (Rc)) enc_rc Tryz.underlying66 ty_75 rfl rfl rfl rfl rfl rfl (fun As4 => ?_)
        refine wl_nil ?_
        refine ev_one (fun w h => h.weak (.cons _ (List.Sublist.refl _)) (fun s hs => hs)) ?_
        refine v_one (i := 17) rfl (by kernel_rfl) rfl ?_
        refine o_appm (enc := rcC) (sz := 16) _ Tryz.underlying66 ty_75 rfl rfl rfl (fun A c => (.s (.s (.z)))) (src_L 0 Tryz.underlying66 rfl) (by simp only [List.length_cons, List.length_nil, Nat.zero_add]; omega) (by simp only [List.length_cons, List.length_nil, Nat.zero_add]; omega) rfl (fun A4 c4 => ?_)
        refine wl_nil ?_
        refine ev_tail rfl ?_
        refine v_one (i := 18) rfl (by kernel_rfl) rfl ?_
        refine o_y (y_assign rfl) rfl rfl ?_
        refine wl_nil ?_
        refine ev_tail rfl ?_
        refine v_done (by kernel_rfl) ?_
        refine e_blk ?_
        refine e_seq ?_
        refine w_region ?_
        refine o_y (y_move rfl) rfl rfl ?_
        refine o_y (y_addi rfl rfl (by omega) (by omega)) rfl rfl ?_
        refine o_y (y_assign rfl) rfl rfl ?_
        refine wl_nil ?_
        refine e_back ((k + 1, acc ++ [(⟨ns.getD k [], 5, 1, (rr.getD le0).e.ttl, { dt0 with name := ns.getD (k + 1) [] }⟩ : Rc)], A4, c4)) ?_ ?_ ⟨rfl, rfl, trivial⟩ (by repeat (first | exact trivial | refine ⟨rfl, ?_⟩)) (fun w h => h.weak (.cons _ (.cons _ (List.Sublist.refl _))) (fun s hs => hs))
        · refine ⟨by show k + 1 ≤ _; omega, ?_, by show (acc ++ [(⟨ns.getD k [], 5, 1, (rr.getD le0).e.ttl, { dt0 with name := ns.getD (k + 1) [] }⟩ : Rc)]).length ≤ k + 1; simp only [List.length_append, List.length_cons, List.length_nil]; omega⟩
          show acc ++ [(⟨ns.getD k [], 5, 1, (rr.getD le0).e.ttl, { dt0 with name := ns.getD (k + 1) [] }⟩ : Rc)] = ((pairs ns).take (k + 1)).flatMap _
          rw [hpt, List.flatMap_append, ← hI.2.1, List.flatMap_singleton]
          have hS := fF_some hFm h5_9
          rw [hS]
          show _ = _ ++ hopO (some (rr.getD le0).e) _ _
          rw [hopO, if_pos (show (rr.getD le0).e.kind = 3 from h6_4)]
        · show ns.length - (k + 1) < ns.length - k
          omega
      · skip
        refine o_y (y_pick_t rfl rfl) rfl rfl ?_
        refine wl_nil ?_
        refine e_seq ?_
        refine w_cond_f rfl ?_
        refine w_skip ?_
        refine e_blk ?_
        refine e_seq ?_
        refine w_region ?_
        refine o_y (y_move rfl) rfl rfl ?_
        refine o_y (y_addi rfl rfl (by omega) (by omega)) rfl rfl ?_
        refine o_y (y_assign rfl) rfl rfl ?_
        refine wl_nil ?_
        refine e_back ((k + 1, acc, A5, c5)) ?_ ?_ ⟨rfl, rfl, trivial⟩ (by repeat (first | exact trivial | refine ⟨rfl, ?_⟩)) (fun w h => h.weak (.cons _ (List.Sublist.refl _)) (fun s hs => hs))
        · refine ⟨by show k + 1 ≤ _; omega, ?_, by show (acc).length ≤ k + 1; omega⟩
          show acc = ((pairs ns).take (k + 1)).flatMap _
          rw [hpt, List.flatMap_append, ← hI.2.1, List.flatMap_singleton]
          first
            | (have hS := fF_none hFm h5_9
               rw [hS]
               show _ = _ ++ hopO none _ _
               rw [hopO, List.append_nil])
            | (have hS := fF_some hFm h5_9
               rw [hS]
               show _ = _ ++ hopO (some (rr.getD le0).e) _ _
               rw [hopO, if_neg (show ¬ (rr.getD le0).e.kind = 3 from h6_4), List.append_nil])
        · show ns.length - (k + 1) < ns.length - k
          omega
    · skip
      refine o_alloc ty_34 rfl rfl (fun b6 => ?_)
      refine o_store ty_34 rfl rfl rfl .z rfl rfl rfl rfl ?_
      refine o_y (y_assign rfl) rfl rfl ?_
      refine wl_nil ?_
      refine e_seq ?_
      refine w_seq ?_
      have hFm := hF _ _ hrr
      refine w_region ?_
      refine o_y (y_move rfl) rfl rfl ?_
      refine o_y (y_move rfl) rfl rfl ?_
      refine wl_gno rfl rfl rfl rfl ?_
      refine wl_gno rfl rfl rfl rfl ?_
      refine wl_gno rfl rfl rfl rfl ?_
      refine o_y (y_pick_f rfl rfl) rfl rfl ?_
      refine wl_nil ?_
      refine e_seq ?_
      refine w_cond_f rfl ?_
      refine w_skip ?_
      refine e_blk ?_
      refine e_seq ?_
      refine w_region ?_
      refine o_y (y_move rfl) rfl rfl ?_
      refine o_y (y_addi rfl rfl (by omega) (by omega)) rfl rfl ?_
      refine o_y (y_assign rfl) rfl rfl ?_
      refine wl_nil ?_
      refine e_back ((k + 1, acc, A5, c5)) ?_ ?_ ⟨rfl, rfl, trivial⟩ (by repeat (first | exact trivial | refine ⟨rfl, ?_⟩)) (fun w h => h.weak (.cons _ (List.Sublist.refl _)) (fun s hs => hs))
      · refine ⟨by show k + 1 ≤ _; omega, ?_, by show (acc).length ≤ k + 1; omega⟩
        show acc = ((pairs ns).take (k + 1)).flatMap _
        rw [hpt, List.flatMap_append, ← hI.2.1, List.flatMap_singleton]
        first
          | (have hS := fF_none hFm h5_9
             rw [hS]
             show _ = _ ++ hopO none _ _
             rw [hopO, List.append_nil])
          | (have hS := fF_some hFm h5_9
             rw [hS]
             show _ = _ ++ hopO (some (rr.getD le0).e) _ _
             rw [hopO, if_neg (show ¬ (rr.getD le0).e.kind = 3 from h6_4), List.append_nil])
      · show ns.length - (k + 1) < ns.length - k
        omega
  · skip
    refine o_y (y_move rfl) rfl rfl ?_
    refine wl_gno rfl rfl rfl rfl ?_
    refine wl_gno rfl rfl rfl rfl ?_
    refine o_y (y_pick_f rfl rfl) rfl rfl ?_
    refine wl_nil ?_
    refine e_seq ?_
    refine w_cond_f rfl ?_
    refine w_exit ?_
    refine e_seq_exit ?_
    refine e_loop_exit ?_
    refine e_blk_hit ?_
    refine e_seq ?_
    refine w_seq ?_
    refine w_region ?_
    refine o_y (y_move rfl) rfl rfl ?_
    refine o_y (y_assign rfl) rfl rfl ?_
    refine wl_nil ?_
    refine e_seq ?_
    refine w_ret ?_
    refine e_ret (ts := [4]) rfl rfl rfl (fun w hw => ?_)
    have hE : hopsO Fe ns = acc := by
      have hpl := pairs_len ns
      rw [hI.2.1, List.take_of_length_le (by omega)]; rfl
    exact ⟨(A5, c5), by rw [hE]; rfl, hw.base, by rw [hE]; exact (hw.weak (.cons_cons _ (.cons _ .slnil)) (fun s hs => hs)).toNews⟩

set_option maxRecDepth 100000 in
set_option maxHeartbeats 1000000 in
theorem c_ref21_Follow (v : Int) (l : List Le) (F : Option Addr) (d : Nat) (b : Nat) (H : Option Addr) (h : Nat) (Fe : Str → Option En) (hF : ∀ k r, RefSpec l k r → r.map (·.e) = Fe k) (hok : TbOk l) (hlen : l.length ≤ 1000000000) (n : Str) (hFb : nameCk n ≠ 0 → Fe n = none) (hnl : n.length ≤ 1000) : RC Tryz.prog 34 #[.pointer (some ⟨b, 0, none⟩), .string (ba n)] [Ch.row b [.int .i64 v, .slice F l.length d, .slice H 0 h] 116, Ch.rd F 7 elC l, Ch.rall (l.flatMap elR)] (α := (Option Addr × Nat) × {e : Le // e.e = enE (Fe (lastN (galF Fe) 8 n)) ∧ e ∈ le0 :: l}) (fun o => .agg (chC (tailN (galF Fe) 8 n).length o.1.1 o.1.2 (stE (Fe (lastN (galF Fe) 8 n)) (tailN (galF Fe) 8 n).length) o.2.1).toArray) (fun o => [Ch.ls o.1.1 o.1.2 26 1 encs (tailN (galF Fe) 8 n)]) := by
  refine rc_of_W (args := [.pointer (some ⟨b, 0, none⟩), .string (ba n)]) 69 Tryz.func34 rfl rfl rfl (fun w0 => ?_)
  refine w_seq ?_
  refine w_region ?_
  refine o_alloc ty_64 rfl rfl (fun b1 => ?_)
  refine wl_nil ?_
  refine e_seq ?_
  refine w_seq ?_
  refine w_region ?_
  refine o_y (y_move rfl) rfl rfl ?_
  refine o_bsl (vs := [_]) ([n] : List (Str)) enc_s Tryz.underlying59 ty_26 rfl rfl rfl rfl rfl rfl (fun As2 => ?_)
  refine o_y (y_build rfl (bu_64_0 _ _ _)) rfl rfl ?_
  refine o_alloc ty_64 rfl rfl (fun b3 => ?_)
  refine o_store ty_64 rfl rfl rfl .z rfl rfl rfl rfl ?_
  refine wl_nil ?_
  refine e_seq ?_
  refine w_seq ?_
  refine w_seq ?_
  refine w_region ?_
  refine o_y (y_move rfl) rfl rfl ?_
  refine o_y (y_eqp Tryz.underlying47 rfl rfl) rfl rfl ?_
  refine wl_as (t := 12) (.bool false) rfl (congrArg Value.bool rfl) ?_
  refine o_y (y_move rfl) rfl rfl ?_
  refine wl_gyes rfl rfl ?_
  refine o_y (y_move rfl) rfl rfl ?_
  refine wl_gyes rfl rfl ?_
  refine o_callp rfl ent_80 (c_ref02_Check _) rfl ?_
  refine wl_gyes rfl rfl ?_
  refine o_y (y_neq rfl rfl) rfl rfl ?_
  refine wl_splitp (t := 16) rfl (fun h2_5 => ?_) (fun h2_5 => ?_)
  · skip
    refine o_y (y_pick_f rfl rfl) rfl rfl ?_
    refine wl_nil ?_
    refine e_seq ?_
    refine w_cond_t rfl ?_
    refine w_seq ?_
    refine w_region ?_
    refine o_y (y_loadrs 0 ty_64 rfl rfl rfl rfl) rfl rfl ?_
    refine o_store ty_64 rfl rfl rfl (.s (.s (.z))) rfl rfl rfl rfl ?_
    refine wl_nil ?_
    refine e_seq ?_
    refine w_ret ?_
    refine e_seq_ret ?_
    refine e_rsr (rs := [.cell 4 64]) rfl (rs_cells 2 ty_64 rfl rfl rfl rfl rs_nil) rfl (fun w hw => ?_)
    have hf : Fe n = none := hFb h2_5
    have hg := tail_none (G := galF Fe) (show aliE (Fe n) = none by rw [hf]; rfl) 8
    have hN := hg.1
    have hL := hg.2
    exact ⟨((As2, 1), ⟨le0, by rw [hL, hf]; rfl, .head _⟩), by show _ = Ending.returned (.agg (chC (tailN (galF Fe) 8 n).length As2 1 (stE (Fe (lastN (galF Fe) 8 n)) (tailN (galF Fe) 8 n).length) le0).toArray); rw [hL, hf, hN]; rfl, hw.base, by rw [hN]; exact (hw.weak (.cons _ (.cons_cons _ (.cons _ .slnil))) (fun s hs => hs)).toNews⟩
  · skip
    refine o_y (y_pick_f rfl rfl) rfl rfl ?_
    refine wl_nil ?_
    refine e_seq ?_
    refine w_cond_f rfl ?_
    refine w_skip ?_
    refine e_seq ?_
    refine w_block ?_
    refine w_loopL (σ := List Str × Str × Option Addr × Nat) [0, 6, 7, 19, 20, 21, 22, 23, 24, 25, 26, 27, 28, 29, 30, 31, 32, 33, 34, 35, 36, 37, 38, 39, 40, 41, 42, 43, 44, 45, 46, 47, 48, 49, 50, 51, 52, 53, 54, 55, 56, 57, 58, 59, 60, 61, 62, 63, 64, 65, 66, 67, 68] (fun q => tailN (galF Fe) 8 n = q.1 ++ tailN (galF Fe) (8 - q.1.length) q.2.1 ∧ lastN (galF Fe) 8 n = lastN (galF Fe) (8 - q.1.length) q.2.1 ∧ q.1.length ≤ 8 ∧ q.2.1.length ≤ 1000) (fun q => 8 - q.1.length) (fun q => [(0, .pointer (some ⟨b, 0, none⟩))]) (fun q => [Ch.row b3 (chC (q.1 ++ [q.2.1]).length q.2.2.1 q.2.2.2 0 le0) 64, Ch.ls q.2.2.1 q.2.2.2 26 1 encs (q.1 ++ [q.2.1])]) (([], n, As2, 1)) ?_ ⟨rfl, trivial⟩ rfl (fun q hI => ?_)
    · exact ⟨rfl, rfl, Nat.zero_le _, hnl⟩
    obtain ⟨pre, m, Ac, cc⟩ := q
    dsimp only at hI ⊢
    refine w_block ?_
    refine w_seq ?_
    have hpm : (pre ++ [m]).length = pre.length + 1 := by simp
    refine w_region ?_
    refine o_y (y_move rfl) rfl rfl ?_
    refine o_y (y_field fa_64_0 rfl) rfl rfl ?_
    refine o_y (y_loadr 0 ty_59 rfl rfl rfl) rfl rfl ?_
    refine o_y (y_field fa_64_0 rfl) rfl rfl ?_
    refine o_y (y_loadr 0 ty_59 rfl rfl rfl) rfl rfl ?_
    refine o_y (y_lenl Tryz.underlying59 rfl) rfl rfl ?_
    refine o_y (y_subi rfl rfl (by omega) (by omega)) rfl rfl ?_
    refine o_y (y_ixm (k := pre.length) Tryz.underlying59 ty_26 rfl rfl (rs_L 1 rfl) (by simp) (by simp)) rfl rfl ?_
    refine o_y (y_ldm0 enc_s ([] : Str) ty_26 rfl (rs_L 1 rfl) (by simp) rfl rfl) rfl rfl ?_
    refine wl_as (t := 28) (.string (ba m)) rfl (by simp) ?_
    refine o_callr0 rfl ent_15 rfl (c_ref18_Find v l F d b H h m hok (by omega) (by omega)) (fun w hw => (rd_cons (rd_S 0 rfl hw) (rd_cons (rd_S 1 rfl hw) (rd_cons (rd_S 2 rfl hw) rd_nil)))) (fun ⟨rr, hrr⟩ => ?_)
    refine o_y (y_move rfl) rfl rfl ?_
    refine o_y (y_extract rfl rfl) rfl rfl ?_
    refine o_y (y_extract rfl rfl) rfl rfl ?_
    refine wl_splitb (t := 31) rfl (fun h4_12 => ?_) (fun h4_12 => ?_)
    · skip
      refine o_alloc ty_34 rfl rfl (fun b5 => ?_)
      refine o_store ty_34 rfl rfl rfl .z rfl rfl rfl rfl ?_
      refine o_y (y_assign rfl) rfl rfl ?_
      refine wl_nil ?_
      refine e_seq ?_
      refine w_seq ?_
      refine w_block ?_
      refine w_seq ?_
      have hFm := hF _ _ hrr
      refine w_region ?_
      refine o_y (y_move rfl) rfl rfl ?_
      refine o_y (y_not rfl) rfl rfl ?_
      refine o_y (y_move rfl) rfl rfl ?_
      refine wl_gno rfl rfl rfl rfl ?_
      refine wl_gno rfl rfl rfl rfl ?_
      refine wl_gno rfl rfl rfl rfl ?_
      refine wl_gno rfl rfl rfl rfl ?_
      refine o_y (y_pick_f rfl rfl) rfl rfl ?_
      refine o_y (y_assign rfl) rfl rfl ?_
      refine wl_nil ?_
      refine e_seq ?_
      refine w_cond_f rfl ?_
      refine w_seq ?_
      refine w_region ?_
      refine o_y (y_move rfl) rfl rfl ?_
      refine o_y (y_not rfl) rfl rfl ?_
      refine o_y (y_assign rfl) rfl rfl ?_
      refine wl_nil ?_
      refine e_seq ?_
      refine w_cond_f rfl ?_
      refine w_seq ?_
      refine w_region ?_
      refine o_y (y_field fa_34_1 rfl) rfl rfl ?_
      refine o_y (y_loadr 0 ty_3 rfl rfl rfl) rfl rfl ?_
      refine o_y (y_neq rfl rfl) rfl rfl ?_
      refine wl_splitp (t := 50) rfl (fun h10_2 => ?_) (fun h10_2 => ?_)
      · skip
        refine o_y (y_assign rfl) rfl rfl ?_
        refine wl_nil ?_
        refine e_seq ?_
        refine w_cond_t rfl ?_
        refine w_seq ?_
        have hFs := fF_some hFm h4_12
        have hk9 : ¬ (rr.getD le0).e.kind = 3 := h10_2
        have hst := tail_stop hI.1 hI.2.1 (.inl (show aliE (Fe m) = none by rw [hFs]; exact if_neg hk9))
        have hN := hst.1
        have hL := hst.2
        
        refine w_drawA 4 rfl mixed (fun w h => (h.any (b := b3) (n := 9) (T := 64) (.s (.z)) rfl)) ?_
        refine a_take (i := 0) rfl wanted_none (y_loadrs 0 ty_34 rfl rfl rfl rfl) (fun w h => (h.any (b := b3) (n := 9) (T := 64) (.s (.z)) rfl)) (fun w h => h) rfl (pk_seq (pk_blk (pk_seq (pk_blk (pk_loop (pk_blk pk_fn)))))) (by kernel_rfl) rfl ?_
        refine a_take (i := 1) rfl wanted_none (y_field fa_64_1 rfl) (fun w h => (h.any (b := b3) (n := 9) (T := 64) (.s (.z)) rfl)) (fun w h => h) rfl (pk_seq (pk_blk (pk_seq (pk_blk (pk_loop (pk_blk pk_fn)))))) (by kernel_rfl) rfl ?_
        refine a_one (i := 2) rfl rfl rfl (fun _ _ _ => tame_op (by kernel_rfl)) (by kernel_rfl) rfl ?_
        refine o_store ty_3 rfl rfl rfl (.s (.z)) rfl rfl rfl rfl ?_
        refine wl_nil ?_
        refine e_one (fun w h => (h.any (b := b3) (n := 9) (T := 64) (.s (.z)) rfl)) ?_
        refine a_take (i := 3) rfl wanted_none (y_field fa_64_2 rfl) (fun w h => (h.any (b := b3) (n := 9) (T := 64) (.s (.z)) rfl)) (fun w h => h) rfl (pk_seq (pk_blk (pk_seq (pk_blk (pk_loop (pk_blk pk_fn)))))) (by kernel_rfl) rfl ?_
        refine a_one (i := 4) rfl rfl rfl (fun _ _ _ => tame_op (by kernel_rfl)) (by kernel_rfl) rfl ?_
        refine o_store ty_34 rfl rfl rfl (.s (.z)) rfl rfl rfl rfl ?_
        refine wl_nil ?_
        refine e_tail rfl ?_
        refine a_done (by kernel_rfl) ?_
        refine e_seq ?_
        refine w_seq ?_
        refine w_region ?_
        refine o_y (y_loadrs 1 ty_64 rfl rfl rfl rfl) rfl rfl ?_
        refine o_store ty_64 rfl rfl rfl (.s (.s (.s (.z)))) rfl rfl rfl rfl ?_
        refine wl_nil ?_
        refine e_seq ?_
        refine w_ret ?_
        refine e_blk_ret ?_
        refine e_seq_ret ?_
        refine e_blk_ret ?_
        refine e_loop_ret ?_
        refine e_blk_ret ?_
        refine e_rsr (rs := [.cell 4 64]) rfl (rs_cells 3 ty_64 rfl rfl rfl rfl rs_nil) rfl (fun w hw => ?_)
        exact ⟨((Ac, cc), ⟨rr.getD le0, by rw [hL, hFs]; exact (if_neg hk9).symm, mem_rr hrr⟩), by show _ = Ending.returned (.agg (chC (tailN (galF Fe) 8 n).length Ac cc (stE (Fe (lastN (galF Fe) 8 n)) (tailN (galF Fe) 8 n).length) (rr.getD le0)).toArray); rw [hL, hFs, hN]; show _ = Ending.returned (.agg (chC _ Ac cc (if (rr.getD le0).e.kind = 3 then 3 else 1) (rr.getD le0)).toArray); rw [if_neg hk9]; first | rfl | skip, hw.base, by rw [hN]; exact (hw.weak (.cons _ (.cons _ (.cons_cons _ (.cons _ .slnil)))) (fun s hs => hs)).toNews⟩
      · skip
        refine o_y (y_assign rfl) rfl rfl ?_
        refine wl_nil ?_
        refine e_seq ?_
        refine w_cond_f rfl ?_
        refine w_seq ?_
        refine w_region ?_
        refine o_y (y_field fa_64_0 rfl) rfl rfl ?_
        refine o_y (y_loadr 1 ty_59 rfl rfl rfl) rfl rfl ?_
        refine o_y (y_lenl Tryz.underlying59 rfl) rfl rfl ?_
        refine o_y (y_gtr rfl rfl) rfl rfl ?_
        refine wl_splitp (t := 59) rfl (fun h13_3 => ?_) (fun h13_3 => ?_)
        · skip
          refine o_y (y_assign rfl) rfl rfl ?_
          refine wl_nil ?_
          refine e_seq ?_
          refine w_cond_t rfl ?_
          refine w_seq ?_
          have hFs := fF_some hFm h4_12
          have hk9 : (rr.getD le0).e.kind = 3 := Decidable.not_not.1 h10_2
          have hst := tail_stop hI.1 hI.2.1 (.inr (by simp only [List.length_append, List.length_cons, List.length_nil] at h13_3; omega))
          have hN := hst.1
          have hL := hst.2
          
          refine w_region ?_
          refine o_y (y_field fa_64_1 rfl) rfl rfl ?_
          refine o_store ty_3 rfl rfl rfl (.s (.z)) rfl rfl rfl rfl ?_
          refine wl_nil ?_
          refine e_seq ?_
          refine w_seq ?_
          refine w_region ?_
          refine o_y (y_loadrs 1 ty_64 rfl rfl rfl rfl) rfl rfl ?_
          refine o_store ty_64 rfl rfl rfl (.s (.s (.s (.z)))) rfl rfl rfl rfl ?_
          refine wl_nil ?_
          refine e_seq ?_
          refine w_ret ?_
          refine e_blk_ret ?_
          refine e_seq_ret ?_
          refine e_blk_ret ?_
          refine e_loop_ret ?_
          refine e_blk_ret ?_
          refine e_rsr (rs := [.cell 4 64]) rfl (rs_cells 3 ty_64 rfl rfl rfl rfl rs_nil) rfl (fun w hw => ?_)
          exact ⟨((Ac, cc), ⟨le0, by rw [hL, hFs]; exact (if_pos hk9).symm, .head _⟩), by show _ = Ending.returned (.agg (chC (tailN (galF Fe) 8 n).length Ac cc (stE (Fe (lastN (galF Fe) 8 n)) (tailN (galF Fe) 8 n).length) le0).toArray); rw [hL, hFs, hN]; show _ = Ending.returned (.agg (chC _ Ac cc (if (rr.getD le0).e.kind = 3 then 3 else 1) le0).toArray); rw [if_pos hk9]; first | rfl | skip, hw.base, by rw [hN]; exact (hw.weak (.cons _ (.cons _ (.cons_cons _ (.cons _ .slnil)))) (fun s hs => hs)).toNews⟩
        · skip
          refine o_y (y_assign rfl) rfl rfl ?_
          refine wl_nil ?_
          refine e_seq ?_
          refine w_cond_f rfl ?_
          refine w_skip ?_
          refine e_blk ?_
          refine e_seq ?_
          have hFs := fF_some hFm h4_12
          have hk9 : (rr.getD le0).e.kind = 3 := Decidable.not_not.1 h10_2
          have hpl : pre.length < 8 := by
            simp only [List.length_append, List.length_cons, List.length_nil] at h13_3; omega
          have hal9 : (rr.getD le0).e.alias.length ≤ 1000 := (hok.mem (ref_mem hrr h4_12)).al
          have hgo := tail_go hI.1 hI.2.1 (a := (rr.getD le0).e.alias) (show aliE (Fe m) = _ by rw [hFs]; exact if_pos hk9) hpl
          refine w_region ?_
          refine o_y (y_field fa_64_0 rfl) rfl rfl ?_
          refine o_y (y_loadr 1 ty_59 rfl rfl rfl) rfl rfl ?_
          refine o_y (y_field fa_34_4 rfl) rfl rfl ?_
          refine o_y (y_loadr 0 ty_26 rfl rfl rfl) rfl rfl ?_
          refine o_bsl (vs := [_]) ([(rr.getD le0).e.alias] : List (Str)) enc_s Tryz.underlying59 ty_26 rfl rfl rfl rfl rfl rfl (fun As6 => ?_)
          refine o_appm (enc := encs) (sz := 1) _ Tryz.underlying59 ty_26 rfl rfl rfl (fun A c => (.s (.s (.s (.z))))) (src_L 0 Tryz.underlying59 rfl) (by simp only [List.length_cons, List.length_nil, Nat.zero_add]; omega) (by simp only [List.length_cons, List.length_nil, Nat.zero_add]; omega) rfl (fun A6 c6 => ?_)
          refine o_y (y_field fa_64_0 rfl) rfl rfl ?_
          refine o_store ty_59 rfl rfl rfl (.s (.s (.z))) rfl rfl rfl rfl ?_
          refine wl_nil ?_
          refine e_blk ?_
          refine e_back ((pre ++ [m], (rr.getD le0).e.alias, A6, c6)) ?_ ?_ ⟨rfl, trivial⟩ (by repeat (first | exact trivial | refine ⟨rfl, ?_⟩)) (fun w h => h.weak (.cons _ (.cons _ (List.Sublist.refl _))) (fun s hs => hs))
          · exact ⟨hgo.1, hgo.2, by show (pre ++ [m]).length ≤ 8; simp; omega, hal9⟩
          · show 8 - (pre ++ [m]).length < 8 - pre.length
            simp; omega
    · skip
      refine o_alloc ty_34 rfl rfl (fun b8 => ?_)
      refine o_store ty_34 rfl rfl rfl .z rfl rfl rfl rfl ?_
      refine o_y (y_assign rfl) rfl rfl ?_
      refine wl_nil ?_
      refine e_seq ?_
      refine w_seq ?_
      refine w_block ?_
      refine w_seq ?_
      have hFm := hF _ _ hrr
      refine w_region ?_
      refine o_y (y_move rfl) rfl rfl ?_
      refine o_y (y_not rfl) rfl rfl ?_
      refine o_y (y_move rfl) rfl rfl ?_
      refine wl_gyes rfl rfl ?_
      refine o_y (y_field fa_64_0 rfl) rfl rfl ?_
      refine wl_gyes rfl rfl ?_
      refine o_y (y_loadr 1 ty_59 rfl rfl rfl) rfl rfl ?_
      refine wl_gyes rfl rfl ?_
      refine o_y (y_lenl Tryz.underlying59 rfl) rfl rfl ?_
      refine wl_gyes rfl rfl ?_
      refine o_y (y_eql rfl rfl) rfl rfl ?_
      refine wl_splitp (t := 39) rfl (fun h5_6 => ?_) (fun h5_6 => ?_)
      · skip
        refine o_y (y_pick_t rfl rfl) rfl rfl ?_
        refine o_y (y_assign rfl) rfl rfl ?_
        refine wl_nil ?_
        refine e_seq ?_
        refine w_cond_t rfl ?_
        refine w_seq ?_
        have hFn := fF_none hFm h4_12
        have hst := tail_stop hI.1 hI.2.1 (.inl (show aliE (Fe m) = none by rw [hFn]; rfl))
        have hN := hst.1
        have hL := hst.2
        
        refine w_region ?_
        refine o_y (y_loadrs 1 ty_64 rfl rfl rfl rfl) rfl rfl ?_
        refine o_store ty_64 rfl rfl rfl (.s (.s (.s (.z)))) rfl rfl rfl rfl ?_
        refine wl_nil ?_
        refine e_seq ?_
        refine w_ret ?_
        refine e_blk_ret ?_
        refine e_seq_ret ?_
        refine e_blk_ret ?_
        refine e_loop_ret ?_
        refine e_blk_ret ?_
        refine e_rsr (rs := [.cell 4 64]) rfl (rs_cells 3 ty_64 rfl rfl rfl rfl rs_nil) rfl (fun w hw => ?_)
        exact ⟨((Ac, cc), ⟨le0, by rw [hL, hFn]; rfl, .head _⟩), by show _ = Ending.returned (.agg (chC (tailN (galF Fe) 8 n).length Ac cc (stE (Fe (lastN (galF Fe) 8 n)) (tailN (galF Fe) 8 n).length) le0).toArray); rw [hL, hFn, hN]; show _ = Ending.returned (.agg (chC _ Ac cc (if 1 < (pre ++ [m]).length then 2 else 0) le0).toArray); rw [if_neg (by first | omega | (simp only [List.length_append, List.length_cons, List.length_nil] at h5_6 ⊢; omega))]; first | rfl | skip, hw.base, by rw [hN]; exact (hw.weak (.cons _ (.cons _ (.cons_cons _ (.cons _ .slnil)))) (fun s hs => hs)).toNews⟩
      · skip
        refine o_y (y_pick_t rfl rfl) rfl rfl ?_
        refine o_y (y_assign rfl) rfl rfl ?_
        refine wl_nil ?_
        refine e_seq ?_
        refine w_cond_f rfl ?_
        refine w_seq ?_
        refine w_region ?_
        refine o_y (y_move rfl) rfl rfl ?_
        refine o_y (y_not rfl) rfl rfl ?_
        refine o_y (y_assign rfl) rfl rfl ?_
        refine wl_nil ?_
        refine e_seq ?_
        refine w_cond_t rfl ?_
        refine w_seq ?_
        have hFn := fF_none hFm h4_12
        have hst := tail_stop hI.1 hI.2.1 (.inl (show aliE (Fe m) = none by rw [hFn]; rfl))
        have hN := hst.1
        have hL := hst.2
        
        refine w_region ?_
        refine o_y (y_field fa_64_1 rfl) rfl rfl ?_
        refine o_store ty_3 rfl rfl rfl (.s (.z)) rfl rfl rfl rfl ?_
        refine wl_nil ?_
        refine e_seq ?_
        refine w_seq ?_
        refine w_region ?_
        refine o_y (y_loadrs 1 ty_64 rfl rfl rfl rfl) rfl rfl ?_
        refine o_store ty_64 rfl rfl rfl (.s (.s (.s (.z)))) rfl rfl rfl rfl ?_
        refine wl_nil ?_
        refine e_seq ?_
        refine w_ret ?_
        refine e_blk_ret ?_
        refine e_seq_ret ?_
        refine e_blk_ret ?_
        refine e_loop_ret ?_
        refine e_blk_ret ?_
        refine e_rsr (rs := [.cell 4 64]) rfl (rs_cells 3 ty_64 rfl rfl rfl rfl rs_nil) rfl (fun w hw => ?_)
        exact ⟨((Ac, cc), ⟨le0, by rw [hL, hFn]; rfl, .head _⟩), by show _ = Ending.returned (.agg (chC (tailN (galF Fe) 8 n).length Ac cc (stE (Fe (lastN (galF Fe) 8 n)) (tailN (galF Fe) 8 n).length) le0).toArray); rw [hL, hFn, hN]; show _ = Ending.returned (.agg (chC _ Ac cc (if 1 < (pre ++ [m]).length then 2 else 0) le0).toArray); rw [if_pos (by first | omega | (simp only [List.length_append, List.length_cons, List.length_nil] at h5_6 ⊢; omega))]; first | rfl | skip, hw.base, by rw [hN]; exact (hw.weak (.cons _ (.cons _ (.cons_cons _ (.cons _ .slnil)))) (fun s hs => hs)).toNews⟩
end Go.Proofs.YtckfjfnkombelaaGreat
