/- the reference of entries; the law of calls -/
import Derived.Test.YtahpppncjbgpaaaCl
namespace Go.Proofs.Ytahpppncjbgpaaa
open Go.RowKit Go.Shelf
set_option linter.unusedVariables false
set_option linter.unusedSimpArgs false

theorem bu_55_0_1_2 (x0 : Int) (x1 : Int) (x2 : Int) : Try.prog.built 55 [(0, .int .u32 x0), (1, .int .u32 x1), (2, .int .u32 x2)] = some [.int .u32 x0, .int .u32 x1, .int .u32 x2, .int .u32 0, .int .u32 0].toArray := by kernel_rfl
theorem ent_43 : Enters Try.prog 43 := enters_of Try.func43 (by kernel_rfl) rfl
theorem ent_44 : Enters Try.prog 44 := enters_of Try.func44 (by kernel_rfl) rfl
theorem ent_45 : Enters Try.prog 45 := enters_of Try.func45 (by kernel_rfl) rfl
theorem ent_46 : Enters Try.prog 46 := enters_of Try.func46 (by kernel_rfl) rfl
theorem ent_47 : Enters Try.prog 47 := enters_of Try.func47 (by kernel_rfl) rfl
theorem ent_48 : Enters Try.prog 48 := enters_of Try.func48 (by kernel_rfl) rfl

theorem c_ref16_Key (e : En) (A B : Option Addr) (c d : Nat) (hn : e.host.length ≤ 1000000000) : Pure Try.prog 45 #[.agg (enC e A B c d).toArray] (.string (ba (foldN e.host))) := by
  intro w0
  refine calls_of_W (ok0 := no) (S := []) (args := [.agg (enC e A B c d).toArray]) 6 Try.func45 rfl rfl rfl (by simp) (by simp) ?_
  refine w_seq ?_
  refine w_region ?_
  refine o_box rfl rfl rfl (fun b1 => ?_)
  refine o_y (y_assign rfl) rfl rfl ?_
  refine wl_nil ?_
  refine e_seq ?_
  refine w_seq ?_
  refine w_region ?_
  refine o_y (y_field fa_48_0 rfl) rfl rfl ?_
  refine o_y (y_loadr 0 ty_22 rfl rfl rfl) rfl rfl ?_
  refine o_callp rfl ent_37 (p_ref02_Fold _ (by omega)) rfl ?_
  refine o_y (y_assign rfl) rfl rfl ?_
  refine wl_nil ?_
  refine e_seq ?_
  refine w_ret ?_
  refine e_ret (ts := [2]) rfl rfl rfl (fun w hw => ?_)
  exact ⟨rfl, hw.base⟩

set_option maxRecDepth 100000 in
theorem c_ref16_Same (e : En) (A B : Option Addr) (c d : Nat) (f : En) (F G : Option Addr) (c2 d2 : Nat) (hla : e.addrs.length ≤ 1000000000000) (hlp : e.ports.length ≤ 1000000000000) : RC Try.prog 48 #[.agg (enC e A B c d).toArray, .agg (enC f F G c2 d2).toArray] [Ch.rd A 3 adC e.addrs, Ch.rd B 1 enci e.ports, Ch.rd F 3 adC f.addrs, Ch.rd G 1 enci f.ports] (α := Unit) (fun _ => .bool (decide (e = f))) (fun _ => []) := by
  refine rc_of_W (args := [.agg (enC e A B c d).toArray, .agg (enC f F G c2 d2).toArray]) 94 Try.func48 rfl rfl rfl (fun w0 => ?_)
  refine w_seq ?_
  refine w_region ?_
  refine o_box rfl rfl rfl (fun b1 => ?_)
  refine o_box rfl rfl rfl (fun b2 => ?_)
  refine o_y (y_assign rfl) rfl rfl ?_
  refine wl_nil ?_
  refine e_seq ?_
  refine w_seq ?_
  refine w_seq ?_
  refine w_region ?_
  refine o_y (y_field fa_48_0 rfl) rfl rfl ?_
  refine o_y (y_loadr 1 ty_22 rfl rfl rfl) rfl rfl ?_
  refine o_y (y_field fa_48_0 rfl) rfl rfl ?_
  refine o_y (y_loadr 0 ty_22 rfl rfl rfl) rfl rfl ?_
  refine o_y (y_neqs rfl rfl) rfl rfl ?_
  refine wl_splitp (t := 11) rfl (fun h1_4 => ?_) (fun h1_4 => ?_)
  · skip
    refine o_y (y_move rfl) rfl rfl ?_
    refine wl_gno rfl rfl rfl rfl ?_
    refine wl_gno rfl rfl rfl rfl ?_
    refine wl_gno rfl rfl rfl rfl ?_
    refine wl_gno rfl rfl rfl rfl ?_
    refine wl_gno rfl rfl rfl rfl ?_
    refine o_y (y_pick_t rfl rfl) rfl rfl ?_
    refine o_y (y_move rfl) rfl rfl ?_
    refine wl_gno rfl rfl rfl rfl ?_
    refine wl_gno rfl rfl rfl rfl ?_
    refine wl_gno rfl rfl rfl rfl ?_
    refine wl_gno rfl rfl rfl rfl ?_
    refine wl_gno rfl rfl rfl rfl ?_
    refine o_y (y_pick_t rfl rfl) rfl rfl ?_
    refine o_y (y_move rfl) rfl rfl ?_
    refine wl_gno rfl rfl rfl rfl ?_
    refine wl_gno rfl rfl rfl rfl ?_
    refine wl_gno rfl rfl rfl rfl ?_
    refine wl_gno rfl rfl rfl rfl ?_
    refine wl_gno rfl rfl rfl rfl ?_
    refine o_y (y_pick_t rfl rfl) rfl rfl ?_
    refine o_y (y_move rfl) rfl rfl ?_
    refine wl_gno rfl rfl rfl rfl ?_
    refine wl_gno rfl rfl rfl rfl ?_
    refine wl_gno rfl rfl rfl rfl ?_
    refine wl_gno rfl rfl rfl rfl ?_
    refine wl_gno rfl rfl rfl rfl ?_
    refine o_y (y_pick_t rfl rfl) rfl rfl ?_
    refine o_y (y_move rfl) rfl rfl ?_
    refine wl_gno rfl rfl rfl rfl ?_
    refine wl_gno rfl rfl rfl rfl ?_
    refine wl_gno rfl rfl rfl rfl ?_
    refine wl_gno rfl rfl rfl rfl ?_
    refine wl_gno rfl rfl rfl rfl ?_
    refine wl_gno rfl rfl rfl rfl ?_
    refine wl_gno rfl rfl rfl rfl ?_
    refine o_y (y_pick_t rfl rfl) rfl rfl ?_
    refine o_y (y_move rfl) rfl rfl ?_
    refine wl_gno rfl rfl rfl rfl ?_
    refine wl_gno rfl rfl rfl rfl ?_
    refine wl_gno rfl rfl rfl rfl ?_
    refine wl_gno rfl rfl rfl rfl ?_
    refine wl_gno rfl rfl rfl rfl ?_
    refine wl_gno rfl rfl rfl rfl ?_
    refine wl_gno rfl rfl rfl rfl ?_
    refine o_y (y_pick_t rfl rfl) rfl rfl ?_
    refine wl_nil ?_
    refine e_seq ?_
    refine w_cond_t rfl ?_
    refine w_seq ?_
    refine w_region ?_
    refine o_y (y_assign rfl) rfl rfl ?_
    refine wl_nil ?_
    refine e_seq ?_
    refine w_ret ?_
    refine e_seq_ret ?_
    refine e_ret (ts := [4]) rfl rfl rfl (fun w hw => ?_)
    refine ⟨(), ?_, hw.base, (hw.weak (List.nil_sublist _) (fun s hs => hs)).toNews⟩
    show Ending.returned (.bool _) = _
    congr 2
    first
      | (have hP := hP
         have he : e = f := by
           cases e; cases f
           simp_all
         rw [decide_eq_true he]
         done)
      | (have hne : e ≠ f := fun h => by
           subst h
           exact h11_10 rfl
         rw [decide_eq_false hne]
         done)
      | (have hne : e ≠ f := fun h => by
           subst h
           exact h6_10 rfl
         rw [decide_eq_false hne]
         done)
      | (have hne : e ≠ f := fun h => by
           subst h
           simp_all
         rw [decide_eq_false hne]
         done)
      | (trace_state; fail)
  · skip
    refine o_y (y_move rfl) rfl rfl ?_
    refine wl_gyes rfl rfl ?_
    refine o_y (y_field fa_48_1 rfl) rfl rfl ?_
    refine wl_gyes rfl rfl ?_
    refine o_y (y_loadr 1 ty_3 rfl rfl rfl) rfl rfl ?_
    refine wl_gyes rfl rfl ?_
    refine o_y (y_field fa_48_1 rfl) rfl rfl ?_
    refine wl_gyes rfl rfl ?_
    refine o_y (y_loadr 0 ty_3 rfl rfl rfl) rfl rfl ?_
    refine wl_gyes rfl rfl ?_
    refine o_y (y_neq rfl rfl) rfl rfl ?_
    refine wl_splitp (t := 17) rfl (fun h1_10 => ?_) (fun h1_10 => ?_)
    · skip
      refine o_y (y_pick_f rfl rfl) rfl rfl ?_
      refine o_y (y_move rfl) rfl rfl ?_
      refine wl_gno rfl rfl rfl rfl ?_
      refine wl_gno rfl rfl rfl rfl ?_
      refine wl_gno rfl rfl rfl rfl ?_
      refine wl_gno rfl rfl rfl rfl ?_
      refine wl_gno rfl rfl rfl rfl ?_
      refine o_y (y_pick_t rfl rfl) rfl rfl ?_
      refine o_y (y_move rfl) rfl rfl ?_
      refine wl_gno rfl rfl rfl rfl ?_
      refine wl_gno rfl rfl rfl rfl ?_
      refine wl_gno rfl rfl rfl rfl ?_
      refine wl_gno rfl rfl rfl rfl ?_
      refine wl_gno rfl rfl rfl rfl ?_
      refine o_y (y_pick_t rfl rfl) rfl rfl ?_
      refine o_y (y_move rfl) rfl rfl ?_
      refine wl_gno rfl rfl rfl rfl ?_
      refine wl_gno rfl rfl rfl rfl ?_
      refine wl_gno rfl rfl rfl rfl ?_
      refine wl_gno rfl rfl rfl rfl ?_
      refine wl_gno rfl rfl rfl rfl ?_
      refine o_y (y_pick_t rfl rfl) rfl rfl ?_
      refine o_y (y_move rfl) rfl rfl ?_
      refine wl_gno rfl rfl rfl rfl ?_
      refine wl_gno rfl rfl rfl rfl ?_
      refine wl_gno rfl rfl rfl rfl ?_
      refine wl_gno rfl rfl rfl rfl ?_
      refine wl_gno rfl rfl rfl rfl ?_
      refine wl_gno rfl rfl rfl rfl ?_
      refine wl_gno rfl rfl rfl rfl ?_
      refine o_y (y_pick_t rfl rfl) rfl rfl ?_
      refine o_y (y_move rfl) rfl rfl ?_
      refine wl_gno rfl rfl rfl rfl ?_
      refine wl_gno rfl rfl rfl rfl ?_
      refine wl_gno rfl rfl rfl rfl ?_
      refine wl_gno rfl rfl rfl rfl ?_
      refine wl_gno rfl rfl rfl rfl ?_
      refine wl_gno rfl rfl rfl rfl ?_
      refine wl_gno rfl rfl rfl rfl ?_
      refine o_y (y_pick_t rfl rfl) rfl rfl ?_
      refine wl_nil ?_
      refine e_seq ?_
      refine w_cond_t rfl ?_
      refine w_seq ?_
      refine w_region ?_
      refine o_y (y_assign rfl) rfl rfl ?_
      refine wl_nil ?_
      refine e_seq ?_
      refine w_ret ?_
      refine e_seq_ret ?_
      refine e_ret (ts := [4]) rfl rfl rfl (fun w hw => ?_)
      refine ⟨(), ?_, hw.base, (hw.weak (List.nil_sublist _) (fun s hs => hs)).toNews⟩
      show Ending.returned (.bool _) = _
      congr 2
      first
        | (have hP := hP
           have he : e = f := by
             cases e; cases f
             simp_all
           rw [decide_eq_true he]
           done)
        | (have hne : e ≠ f := fun h => by
             subst h
             exact h11_10 rfl
           rw [decide_eq_false hne]
           done)
        | (have hne : e ≠ f := fun h => by
             subst h
             exact h6_10 rfl
           rw [decide_eq_false hne]
           done)
        | (have hne : e ≠ f := fun h => by
             subst h
             simp_all
           rw [decide_eq_false hne]
           done)
        | (trace_state; fail)
    · skip
      refine o_y (y_pick_f rfl rfl) rfl rfl ?_
      refine o_y (y_move rfl) rfl rfl ?_
      refine wl_gyes rfl rfl ?_
      refine o_y (y_field fa_48_2 rfl) rfl rfl ?_
      refine wl_gyes rfl rfl ?_
      refine o_y (y_loadr 1 ty_9 rfl rfl rfl) rfl rfl ?_
      refine wl_gyes rfl rfl ?_
      refine o_y (y_field fa_48_2 rfl) rfl rfl ?_
      refine wl_gyes rfl rfl ?_
      refine o_y (y_loadr 0 ty_9 rfl rfl rfl) rfl rfl ?_
      refine wl_gyes rfl rfl ?_
      refine o_y (y_neqs rfl rfl) rfl rfl ?_
      refine wl_splitp (t := 24) rfl (fun h1_17 => ?_) (fun h1_17 => ?_)
      · skip
        refine o_y (y_pick_f rfl rfl) rfl rfl ?_
        refine o_y (y_move rfl) rfl rfl ?_
        refine wl_gno rfl rfl rfl rfl ?_
        refine wl_gno rfl rfl rfl rfl ?_
        refine wl_gno rfl rfl rfl rfl ?_
        refine wl_gno rfl rfl rfl rfl ?_
        refine wl_gno rfl rfl rfl rfl ?_
        refine o_y (y_pick_t rfl rfl) rfl rfl ?_
        refine o_y (y_move rfl) rfl rfl ?_
        refine wl_gno rfl rfl rfl rfl ?_
        refine wl_gno rfl rfl rfl rfl ?_
        refine wl_gno rfl rfl rfl rfl ?_
        refine wl_gno rfl rfl rfl rfl ?_
        refine wl_gno rfl rfl rfl rfl ?_
        refine o_y (y_pick_t rfl rfl) rfl rfl ?_
        refine o_y (y_move rfl) rfl rfl ?_
        refine wl_gno rfl rfl rfl rfl ?_
        refine wl_gno rfl rfl rfl rfl ?_
        refine wl_gno rfl rfl rfl rfl ?_
        refine wl_gno rfl rfl rfl rfl ?_
        refine wl_gno rfl rfl rfl rfl ?_
        refine wl_gno rfl rfl rfl rfl ?_
        refine wl_gno rfl rfl rfl rfl ?_
        refine o_y (y_pick_t rfl rfl) rfl rfl ?_
        refine o_y (y_move rfl) rfl rfl ?_
        refine wl_gno rfl rfl rfl rfl ?_
        refine wl_gno rfl rfl rfl rfl ?_
        refine wl_gno rfl rfl rfl rfl ?_
        refine wl_gno rfl rfl rfl rfl ?_
        refine wl_gno rfl rfl rfl rfl ?_
        refine wl_gno rfl rfl rfl rfl ?_
        refine wl_gno rfl rfl rfl rfl ?_
        refine o_y (y_pick_t rfl rfl) rfl rfl ?_
        refine wl_nil ?_
        refine e_seq ?_
        refine w_cond_t rfl ?_
        refine w_seq ?_
        refine w_region ?_
        refine o_y (y_assign rfl) rfl rfl ?_
        refine wl_nil ?_
        refine e_seq ?_
        refine w_ret ?_
        refine e_seq_ret ?_
        refine e_ret (ts := [4]) rfl rfl rfl (fun w hw => ?_)
        refine ⟨(), ?_, hw.base, (hw.weak (List.nil_sublist _) (fun s hs => hs)).toNews⟩
        show Ending.returned (.bool _) = _
        congr 2
        first
          | (have hP := hP
             have he : e = f := by
               cases e; cases f
               simp_all
             rw [decide_eq_true he]
             done)
          | (have hne : e ≠ f := fun h => by
               subst h
               exact h11_10 rfl
             rw [decide_eq_false hne]
             done)
          | (have hne : e ≠ f := fun h => by
               subst h
               exact h6_10 rfl
             rw [decide_eq_false hne]
             done)
          | (have hne : e ≠ f := fun h => by
               subst h
               simp_all
             rw [decide_eq_false hne]
             done)
          | (trace_state; fail)
      · skip
        refine o_y (y_pick_f rfl rfl) rfl rfl ?_
        refine o_y (y_move rfl) rfl rfl ?_
        refine wl_gyes rfl rfl ?_
        refine o_y (y_field fa_48_4 rfl) rfl rfl ?_
        refine wl_gyes rfl rfl ?_
        refine o_y (y_loadr 1 ty_22 rfl rfl rfl) rfl rfl ?_
        refine wl_gyes rfl rfl ?_
        refine o_y (y_field fa_48_4 rfl) rfl rfl ?_
        refine wl_gyes rfl rfl ?_
        refine o_y (y_loadr 0 ty_22 rfl rfl rfl) rfl rfl ?_
        refine wl_gyes rfl rfl ?_
        refine o_y (y_neqs rfl rfl) rfl rfl ?_
        refine wl_splitp (t := 31) rfl (fun h1_24 => ?_) (fun h1_24 => ?_)
        · skip
          refine o_y (y_pick_f rfl rfl) rfl rfl ?_
          refine o_y (y_move rfl) rfl rfl ?_
          refine wl_gno rfl rfl rfl rfl ?_
          refine wl_gno rfl rfl rfl rfl ?_
          refine wl_gno rfl rfl rfl rfl ?_
          refine wl_gno rfl rfl rfl rfl ?_
          refine wl_gno rfl rfl rfl rfl ?_
          refine o_y (y_pick_t rfl rfl) rfl rfl ?_
          refine o_y (y_move rfl) rfl rfl ?_
          refine wl_gno rfl rfl rfl rfl ?_
          refine wl_gno rfl rfl rfl rfl ?_
          refine wl_gno rfl rfl rfl rfl ?_
          refine wl_gno rfl rfl rfl rfl ?_
          refine wl_gno rfl rfl rfl rfl ?_
          refine wl_gno rfl rfl rfl rfl ?_
          refine wl_gno rfl rfl rfl rfl ?_
          refine o_y (y_pick_t rfl rfl) rfl rfl ?_
          refine o_y (y_move rfl) rfl rfl ?_
          refine wl_gno rfl rfl rfl rfl ?_
          refine wl_gno rfl rfl rfl rfl ?_
          refine wl_gno rfl rfl rfl rfl ?_
          refine wl_gno rfl rfl rfl rfl ?_
          refine wl_gno rfl rfl rfl rfl ?_
          refine wl_gno rfl rfl rfl rfl ?_
          refine wl_gno rfl rfl rfl rfl ?_
          refine o_y (y_pick_t rfl rfl) rfl rfl ?_
          refine wl_nil ?_
          refine e_seq ?_
          refine w_cond_t rfl ?_
          refine w_seq ?_
          refine w_region ?_
          refine o_y (y_assign rfl) rfl rfl ?_
          refine wl_nil ?_
          refine e_seq ?_
          refine w_ret ?_
          refine e_seq_ret ?_
          refine e_ret (ts := [4]) rfl rfl rfl (fun w hw => ?_)
          refine ⟨(), ?_, hw.base, (hw.weak (List.nil_sublist _) (fun s hs => hs)).toNews⟩
          show Ending.returned (.bool _) = _
          congr 2
          first
            | (have hP := hP
               have he : e = f := by
                 cases e; cases f
                 simp_all
               rw [decide_eq_true he]
               done)
            | (have hne : e ≠ f := fun h => by
                 subst h
                 exact h11_10 rfl
               rw [decide_eq_false hne]
               done)
            | (have hne : e ≠ f := fun h => by
                 subst h
                 exact h6_10 rfl
               rw [decide_eq_false hne]
               done)
            | (have hne : e ≠ f := fun h => by
                 subst h
                 simp_all
               rw [decide_eq_false hne]
               done)
            | (trace_state; fail)
        · skip
          refine o_y (y_pick_f rfl rfl) rfl rfl ?_
          refine o_y (y_move rfl) rfl rfl ?_
          refine wl_gyes rfl rfl ?_
          refine o_y (y_field fa_48_6 rfl) rfl rfl ?_
          refine wl_gyes rfl rfl ?_
          refine o_y (y_loadr 1 ty_46 rfl rfl rfl) rfl rfl ?_
          refine wl_gyes rfl rfl ?_
          refine o_y (y_field fa_48_6 rfl) rfl rfl ?_
          refine wl_gyes rfl rfl ?_
          refine o_y (y_loadr 0 ty_46 rfl rfl rfl) rfl rfl ?_
          refine wl_gyes rfl rfl ?_
          refine o_y (y_neq rfl rfl) rfl rfl ?_
          refine wl_splitp (t := 38) rfl (fun h1_31 => ?_) (fun h1_31 => ?_)
          · skip
            refine o_y (y_pick_f rfl rfl) rfl rfl ?_
            refine o_y (y_move rfl) rfl rfl ?_
            refine wl_gno rfl rfl rfl rfl ?_
            refine wl_gno rfl rfl rfl rfl ?_
            refine wl_gno rfl rfl rfl rfl ?_
            refine wl_gno rfl rfl rfl rfl ?_
            refine wl_gno rfl rfl rfl rfl ?_
            refine wl_gno rfl rfl rfl rfl ?_
            refine wl_gno rfl rfl rfl rfl ?_
            refine o_y (y_pick_t rfl rfl) rfl rfl ?_
            refine o_y (y_move rfl) rfl rfl ?_
            refine wl_gno rfl rfl rfl rfl ?_
            refine wl_gno rfl rfl rfl rfl ?_
            refine wl_gno rfl rfl rfl rfl ?_
            refine wl_gno rfl rfl rfl rfl ?_
            refine wl_gno rfl rfl rfl rfl ?_
            refine wl_gno rfl rfl rfl rfl ?_
            refine wl_gno rfl rfl rfl rfl ?_
            refine o_y (y_pick_t rfl rfl) rfl rfl ?_
            refine wl_nil ?_
            refine e_seq ?_
            refine w_cond_t rfl ?_
            refine w_seq ?_
            refine w_region ?_
            refine o_y (y_assign rfl) rfl rfl ?_
            refine wl_nil ?_
            refine e_seq ?_
            refine w_ret ?_
            refine e_seq_ret ?_
            refine e_ret (ts := [4]) rfl rfl rfl (fun w hw => ?_)
            refine ⟨(), ?_, hw.base, (hw.weak (List.nil_sublist _) (fun s hs => hs)).toNews⟩
            show Ending.returned (.bool _) = _
            congr 2
            first
              | (have hP := hP
                 have he : e = f := by
                   cases e; cases f
                   simp_all
                 rw [decide_eq_true he]
                 done)
              | (have hne : e ≠ f := fun h => by
                   subst h
                   exact h11_10 rfl
                 rw [decide_eq_false hne]
                 done)
              | (have hne : e ≠ f := fun h => by
                   subst h
                   exact h6_10 rfl
                 rw [decide_eq_false hne]
                 done)
              | (have hne : e ≠ f := fun h => by
                   subst h
                   simp_all
                 rw [decide_eq_false hne]
                 done)
              | (trace_state; fail)
          · skip
            refine o_y (y_pick_f rfl rfl) rfl rfl ?_
            refine o_y (y_move rfl) rfl rfl ?_
            refine wl_gyes rfl rfl ?_
            refine o_y (y_field fa_48_3 rfl) rfl rfl ?_
            refine wl_gyes rfl rfl ?_
            refine o_y (y_loadr 1 ty_45 rfl rfl rfl) rfl rfl ?_
            refine wl_gyes rfl rfl ?_
            refine o_y (y_lenl Try.underlying45 rfl) rfl rfl ?_
            refine wl_gyes rfl rfl ?_
            refine o_y (y_field fa_48_3 rfl) rfl rfl ?_
            refine wl_gyes rfl rfl ?_
            refine o_y (y_loadr 0 ty_45 rfl rfl rfl) rfl rfl ?_
            refine wl_gyes rfl rfl ?_
            refine o_y (y_lenl Try.underlying45 rfl) rfl rfl ?_
            refine wl_gyes rfl rfl ?_
            refine o_y (y_neq rfl rfl) rfl rfl ?_
            refine wl_splitp (t := 47) rfl (fun h1_40 => ?_) (fun h1_40 => ?_)
            · skip
              refine o_y (y_pick_f rfl rfl) rfl rfl ?_
              refine o_y (y_move rfl) rfl rfl ?_
              refine wl_gno rfl rfl rfl rfl ?_
              refine wl_gno rfl rfl rfl rfl ?_
              refine wl_gno rfl rfl rfl rfl ?_
              refine wl_gno rfl rfl rfl rfl ?_
              refine wl_gno rfl rfl rfl rfl ?_
              refine wl_gno rfl rfl rfl rfl ?_
              refine wl_gno rfl rfl rfl rfl ?_
              refine o_y (y_pick_t rfl rfl) rfl rfl ?_
              refine wl_nil ?_
              refine e_seq ?_
              refine w_cond_t rfl ?_
              refine w_seq ?_
              refine w_region ?_
              refine o_y (y_assign rfl) rfl rfl ?_
              refine wl_nil ?_
              refine e_seq ?_
              refine w_ret ?_
              refine e_seq_ret ?_
              refine e_ret (ts := [4]) rfl rfl rfl (fun w hw => ?_)
              refine ⟨(), ?_, hw.base, (hw.weak (List.nil_sublist _) (fun s hs => hs)).toNews⟩
              show Ending.returned (.bool _) = _
              congr 2
              first
                | (have hP := hP
                   have he : e = f := by
                     cases e; cases f
                     simp_all
                   rw [decide_eq_true he]
                   done)
                | (have hne : e ≠ f := fun h => by
                     subst h
                     exact h11_10 rfl
                   rw [decide_eq_false hne]
                   done)
                | (have hne : e ≠ f := fun h => by
                     subst h
                     exact h6_10 rfl
                   rw [decide_eq_false hne]
                   done)
                | (have hne : e ≠ f := fun h => by
                     subst h
                     simp_all
                   rw [decide_eq_false hne]
                   done)
                | (trace_state; fail)
            · skip
              refine o_y (y_pick_f rfl rfl) rfl rfl ?_
              refine o_y (y_move rfl) rfl rfl ?_
              refine wl_gyes rfl rfl ?_
              refine o_y (y_field fa_48_5 rfl) rfl rfl ?_
              refine wl_gyes rfl rfl ?_
              refine o_y (y_loadr 1 ty_34 rfl rfl rfl) rfl rfl ?_
              refine wl_gyes rfl rfl ?_
              refine o_y (y_lenl Try.underlying34 rfl) rfl rfl ?_
              refine wl_gyes rfl rfl ?_
              refine o_y (y_field fa_48_5 rfl) rfl rfl ?_
              refine wl_gyes rfl rfl ?_
              refine o_y (y_loadr 0 ty_34 rfl rfl rfl) rfl rfl ?_
              refine wl_gyes rfl rfl ?_
              refine o_y (y_lenl Try.underlying34 rfl) rfl rfl ?_
              refine wl_gyes rfl rfl ?_
              refine o_y (y_neq rfl rfl) rfl rfl ?_
              refine wl_splitp (t := 56) rfl (fun h1_49 => ?_) (fun h1_49 => ?_)
              · skip
                refine o_y (y_pick_f rfl rfl) rfl rfl ?_
                refine wl_nil ?_
                refine e_seq ?_
                refine w_cond_t rfl ?_
                refine w_seq ?_
                refine w_region ?_
                refine o_y (y_assign rfl) rfl rfl ?_
                refine wl_nil ?_
                refine e_seq ?_
                refine w_ret ?_
                refine e_seq_ret ?_
                refine e_ret (ts := [4]) rfl rfl rfl (fun w hw => ?_)
                refine ⟨(), ?_, hw.base, (hw.weak (List.nil_sublist _) (fun s hs => hs)).toNews⟩
                show Ending.returned (.bool _) = _
                congr 2
                first
                  | (have hP := hP
                     have he : e = f := by
                       cases e; cases f
                       simp_all
                     rw [decide_eq_true he]
                     done)
                  | (have hne : e ≠ f := fun h => by
                       subst h
                       exact h11_10 rfl
                     rw [decide_eq_false hne]
                     done)
                  | (have hne : e ≠ f := fun h => by
                       subst h
                       exact h6_10 rfl
                     rw [decide_eq_false hne]
                     done)
                  | (have hne : e ≠ f := fun h => by
                       subst h
                       simp_all
                     rw [decide_eq_false hne]
                     done)
                  | (trace_state; fail)
              · skip
                refine o_y (y_pick_f rfl rfl) rfl rfl ?_
                refine wl_nil ?_
                refine e_seq ?_
                refine w_cond_f rfl ?_
                refine w_skip ?_
                refine e_seq ?_
                refine w_seq ?_
                refine w_seq ?_
                refine w_region ?_
                refine o_y (y_assign rfl) rfl rfl ?_
                refine wl_nil ?_
                refine e_seq ?_
                refine w_block ?_
                refine w_loop0 (σ := Nat) [4, 5, 58, 59, 60, 61, 62, 63, 64, 65, 66, 67, 68, 69, 70, 71, 72, 73, 74, 75] (fun k => k ≤ e.addrs.length ∧ e.addrs.take k = f.addrs.take k) (fun k => e.addrs.length - k) (fun k => [(5, .int .i64 k)]) (0) ?_ ⟨rfl, trivial⟩ (fun k hI => ?_)
                · exact ⟨Nat.zero_le _, rfl⟩
                refine w_seq ?_
                refine w_seq ?_
                refine w_region ?_
                refine o_y (y_move rfl) rfl rfl ?_
                refine o_y (y_field fa_48_3 rfl) rfl rfl ?_
                refine o_y (y_loadr 1 ty_45 rfl rfl rfl) rfl rfl ?_
                refine o_y (y_lenl Try.underlying45 rfl) rfl rfl ?_
                refine o_y (y_lss rfl rfl) rfl rfl ?_
                refine wl_splitp (t := 62) rfl (fun h4_4 => ?_) (fun h4_4 => ?_)
                · skip
                  refine wl_nil ?_
                  refine e_seq ?_
                  refine w_cond_t rfl ?_
                  refine w_skip ?_
                  refine e_seq ?_
                  refine w_seq ?_
                  refine w_block ?_
                  refine w_seq ?_
                  refine w_draw 11 rfl mixed ?_
                  refine a_take (i := 0) rfl wanted_none (y_field fa_48_3 rfl) (fun w h => h) (fun w h => h) rfl (pk_seq (pk_blk (pk_seq (pk_loop (pk_blk (pk_seq pk_fn)))))) (by kernel_rfl) rfl ?_
                  refine a_take (i := 1) rfl wanted_none (y_loadr 1 ty_45 rfl rfl rfl) (fun w h => h) (fun w h => h) rfl (pk_seq (pk_blk (pk_seq (pk_loop (pk_blk (pk_seq pk_fn)))))) (by kernel_rfl) rfl ?_
                  refine a_take (i := 2) rfl wanted_none (y_move rfl) (fun w h => h) (fun w h => h) rfl (pk_seq (pk_blk (pk_seq (pk_loop (pk_blk (pk_seq pk_fn)))))) (by kernel_rfl) rfl ?_
                  refine a_take (i := 3) rfl wanted_none (y_ixm  Try.underlying45 ty_54 rfl rfl (rs_S 0 rfl) rfl (by omega)) (fun w h => h) (fun w h => h) rfl (pk_seq (pk_blk (pk_seq (pk_loop (pk_blk (pk_seq pk_fn)))))) (by kernel_rfl) rfl ?_
                  refine a_take (i := 4) rfl wanted_none (y_ldsm0 enc_ad ad0 ty_54 rfl (rs_S 0 rfl) (by omega) rfl rfl rfl) (fun w h => h) (fun w h => h) rfl (pk_seq (pk_blk (pk_seq (pk_loop (pk_blk (pk_seq pk_fn)))))) (by kernel_rfl) rfl ?_
                  refine a_take (i := 5) rfl wanted_none (y_field fa_48_3 rfl) (fun w h => h) (fun w h => h) rfl (pk_seq (pk_blk (pk_seq (pk_loop (pk_blk (pk_seq pk_fn)))))) (by kernel_rfl) rfl ?_
                  refine a_take (i := 6) rfl wanted_none (y_loadr 0 ty_45 rfl rfl rfl) (fun w h => h) (fun w h => h) rfl (pk_seq (pk_blk (pk_seq (pk_loop (pk_blk (pk_seq pk_fn)))))) (by kernel_rfl) rfl ?_
                  refine a_take (i := 7) rfl wanted_none (y_move rfl) (fun w h => h) (fun w h => h) rfl (pk_seq (pk_blk (pk_seq (pk_loop (pk_blk (pk_seq pk_fn)))))) (by kernel_rfl) rfl ?_
                  refine a_take (i := 8) rfl wanted_none (y_ixm  Try.underlying45 ty_54 rfl rfl (rs_S 2 rfl) rfl (by omega)) (fun w h => h) (fun w h => h) rfl (pk_seq (pk_blk (pk_seq (pk_loop (pk_blk (pk_seq pk_fn)))))) (by kernel_rfl) rfl ?_
                  refine a_take (i := 9) rfl wanted_none (y_ldsm0 enc_ad ad0 ty_54 rfl (rs_S 2 rfl) (by omega) rfl rfl rfl) (fun w h => h) (fun w h => h) rfl (pk_seq (pk_blk (pk_seq (pk_loop (pk_blk (pk_seq pk_fn)))))) (by kernel_rfl) rfl ?_
                  refine a_take (i := 10) rfl wanted_none (y_nestd (by kernel_rfl) rfl rfl (eqd_ad _ _) rfl) (fun w h => h) (fun w h => h) rfl (pk_seq (pk_blk (pk_seq (pk_loop (pk_blk (pk_seq pk_fn)))))) (by kernel_rfl) rfl ?_
                  refine wa_splitp (t := 75) rfl (fun h6_10 => ?_) (fun h6_10 => ?_)
                  · skip
                    refine a_done (by kernel_rfl) ?_
                    refine e_seq ?_
                    refine w_cond_t rfl ?_
                    refine w_seq ?_
                    refine w_region ?_
                    refine o_y (y_assign rfl) rfl rfl ?_
                    refine wl_nil ?_
                    refine e_seq ?_
                    refine w_ret ?_
                    refine e_blk_ret ?_
                    refine e_seq_ret ?_
                    refine e_loop_ret ?_
                    refine e_blk_ret ?_
                    refine e_seq_ret ?_
                    refine e_ret (ts := [4]) rfl rfl rfl (fun w hw => ?_)
                    refine ⟨(), ?_, hw.base, (hw.weak (List.nil_sublist _) (fun s hs => hs)).toNews⟩
                    show Ending.returned (.bool _) = _
                    congr 2
                    first
                      | (have hP := hP
                         have he : e = f := by
                           cases e; cases f
                           simp_all
                         rw [decide_eq_true he]
                         done)
                      | (have hne : e ≠ f := fun h => by
                           subst h
                           exact h11_10 rfl
                         rw [decide_eq_false hne]
                         done)
                      | (have hne : e ≠ f := fun h => by
                           subst h
                           exact h6_10 rfl
                         rw [decide_eq_false hne]
                         done)
                      | (have hne : e ≠ f := fun h => by
                           subst h
                           simp_all
                         rw [decide_eq_false hne]
                         done)
                      | (trace_state; fail)
                  · skip
                    refine a_done (by kernel_rfl) ?_
                    refine e_seq ?_
                    refine w_cond_f rfl ?_
                    refine w_skip ?_
                    refine e_blk ?_
                    refine e_seq ?_
                    refine w_region ?_
                    refine o_y (y_move rfl) rfl rfl ?_
                    refine o_y (y_addi rfl rfl (by omega) (by omega)) rfl rfl ?_
                    refine o_y (y_assign rfl) rfl rfl ?_
                    refine wl_nil ?_
                    refine e_back (k + 1) ?_ ?_ ⟨rfl, trivial⟩ (by repeat (first | exact trivial | refine ⟨rfl, ?_⟩)) (fun w h => h)
                    · exact ⟨by omega, take_eq_succ ad0 (by omega) (by omega) hI.2 (by simpa using h6_10)⟩
                    · omega
                · skip
                  refine wl_nil ?_
                  refine e_seq ?_
                  refine w_cond_f rfl ?_
                  refine w_exit ?_
                  refine e_seq_exit ?_
                  refine e_loop_exit ?_
                  refine e_blk_hit ?_
                  refine e_seq ?_
                  refine w_seq ?_
                  refine w_seq ?_
                  have hA : e.addrs = f.addrs := by
                    have := hI.2
                    rw [show k = e.addrs.length by omega, List.take_length, List.take_of_length_le (by omega)] at this
                    exact this
                  refine w_region ?_
                  refine o_y (y_assign rfl) rfl rfl ?_
                  refine wl_nil ?_
                  refine e_seq ?_
                  refine w_block ?_
                  refine w_loop0 (σ := Nat) [4, 6, 76, 77, 78, 79, 80, 81, 82, 83, 84, 85, 86, 87, 88, 89, 90, 91, 92, 93] (fun j => j ≤ e.ports.length ∧ e.ports.take j = f.ports.take j) (fun j => e.ports.length - j) (fun j => [(6, .int .i64 j)]) (0) ?_ ⟨rfl, trivial⟩ (fun j hI => ?_)
                  · exact ⟨Nat.zero_le _, rfl⟩
                  refine w_seq ?_
                  refine w_seq ?_
                  refine w_region ?_
                  refine o_y (y_move rfl) rfl rfl ?_
                  refine o_y (y_field fa_48_5 rfl) rfl rfl ?_
                  refine o_y (y_loadr 1 ty_34 rfl rfl rfl) rfl rfl ?_
                  refine o_y (y_lenl Try.underlying34 rfl) rfl rfl ?_
                  refine o_y (y_lss rfl rfl) rfl rfl ?_
                  refine wl_splitp (t := 80) rfl (fun h9_4 => ?_) (fun h9_4 => ?_)
                  · skip
                    refine wl_nil ?_
                    refine e_seq ?_
                    refine w_cond_t rfl ?_
                    refine w_skip ?_
                    refine e_seq ?_
                    refine w_seq ?_
                    refine w_block ?_
                    refine w_seq ?_
                    refine w_draw 11 rfl mixed ?_
                    refine a_take (i := 0) rfl wanted_none (y_field fa_48_5 rfl) (fun w h => h) (fun w h => h) rfl (pk_seq (pk_blk (pk_seq (pk_loop (pk_blk (pk_seq pk_fn)))))) (by kernel_rfl) rfl ?_
                    refine a_take (i := 1) rfl wanted_none (y_loadr 1 ty_34 rfl rfl rfl) (fun w h => h) (fun w h => h) rfl (pk_seq (pk_blk (pk_seq (pk_loop (pk_blk (pk_seq pk_fn)))))) (by kernel_rfl) rfl ?_
                    refine a_take (i := 2) rfl wanted_none (y_move rfl) (fun w h => h) (fun w h => h) rfl (pk_seq (pk_blk (pk_seq (pk_loop (pk_blk (pk_seq pk_fn)))))) (by kernel_rfl) rfl ?_
                    refine a_take (i := 3) rfl wanted_none (y_ixm  Try.underlying34 ty_3 rfl rfl (rs_S 1 rfl) rfl (by omega)) (fun w h => h) (fun w h => h) rfl (pk_seq (pk_blk (pk_seq (pk_loop (pk_blk (pk_seq pk_fn)))))) (by kernel_rfl) rfl ?_
                    refine a_take (i := 4) rfl wanted_none (y_ldm0 enc_i (0 : Int) ty_3 rfl (rs_S 1 rfl) (by omega) rfl rfl) (fun w h => h) (fun w h => h) rfl (pk_seq (pk_blk (pk_seq (pk_loop (pk_blk (pk_seq pk_fn)))))) (by kernel_rfl) rfl ?_
                    refine a_take (i := 5) rfl wanted_none (y_field fa_48_5 rfl) (fun w h => h) (fun w h => h) rfl (pk_seq (pk_blk (pk_seq (pk_loop (pk_blk (pk_seq pk_fn)))))) (by kernel_rfl) rfl ?_
                    refine a_take (i := 6) rfl wanted_none (y_loadr 0 ty_34 rfl rfl rfl) (fun w h => h) (fun w h => h) rfl (pk_seq (pk_blk (pk_seq (pk_loop (pk_blk (pk_seq pk_fn)))))) (by kernel_rfl) rfl ?_
                    refine a_take (i := 7) rfl wanted_none (y_move rfl) (fun w h => h) (fun w h => h) rfl (pk_seq (pk_blk (pk_seq (pk_loop (pk_blk (pk_seq pk_fn)))))) (by kernel_rfl) rfl ?_
                    refine a_take (i := 8) rfl wanted_none (y_ixm  Try.underlying34 ty_3 rfl rfl (rs_S 3 rfl) rfl (by omega)) (fun w h => h) (fun w h => h) rfl (pk_seq (pk_blk (pk_seq (pk_loop (pk_blk (pk_seq pk_fn)))))) (by kernel_rfl) rfl ?_
                    refine a_take (i := 9) rfl wanted_none (y_ldm0 enc_i (0 : Int) ty_3 rfl (rs_S 3 rfl) (by omega) rfl rfl) (fun w h => h) (fun w h => h) rfl (pk_seq (pk_blk (pk_seq (pk_loop (pk_blk (pk_seq pk_fn)))))) (by kernel_rfl) rfl ?_
                    refine a_take (i := 10) rfl wanted_none (y_neq rfl rfl) (fun w h => h) (fun w h => h) rfl (pk_seq (pk_blk (pk_seq (pk_loop (pk_blk (pk_seq pk_fn)))))) (by kernel_rfl) rfl ?_
                    refine wa_splitp (t := 93) rfl (fun h11_10 => ?_) (fun h11_10 => ?_)
                    · skip
                      refine a_done (by kernel_rfl) ?_
                      refine e_seq ?_
                      refine w_cond_t rfl ?_
                      refine w_seq ?_
                      refine w_region ?_
                      refine o_y (y_assign rfl) rfl rfl ?_
                      refine wl_nil ?_
                      refine e_seq ?_
                      refine w_ret ?_
                      refine e_blk_ret ?_
                      refine e_seq_ret ?_
                      refine e_loop_ret ?_
                      refine e_blk_ret ?_
                      refine e_seq_ret ?_
                      refine e_ret (ts := [4]) rfl rfl rfl (fun w hw => ?_)
                      refine ⟨(), ?_, hw.base, (hw.weak (List.nil_sublist _) (fun s hs => hs)).toNews⟩
                      show Ending.returned (.bool _) = _
                      congr 2
                      first
                        | (have hP := hP
                           have he : e = f := by
                             cases e; cases f
                             simp_all
                           rw [decide_eq_true he]
                           done)
                        | (have hne : e ≠ f := fun h => by
                             subst h
                             exact h11_10 rfl
                           rw [decide_eq_false hne]
                           done)
                        | (have hne : e ≠ f := fun h => by
                             subst h
                             exact h6_10 rfl
                           rw [decide_eq_false hne]
                           done)
                        | (have hne : e ≠ f := fun h => by
                             subst h
                             simp_all
                           rw [decide_eq_false hne]
                           done)
                        | (trace_state; fail)
                    · skip
                      refine a_done (by kernel_rfl) ?_
                      refine e_seq ?_
                      refine w_cond_f rfl ?_
                      refine w_skip ?_
                      refine e_blk ?_
                      refine e_seq ?_
                      refine w_region ?_
                      refine o_y (y_move rfl) rfl rfl ?_
                      refine o_y (y_addi rfl rfl (by omega) (by omega)) rfl rfl ?_
                      refine o_y (y_assign rfl) rfl rfl ?_
                      refine wl_nil ?_
                      refine e_back (j + 1) ?_ ?_ ⟨rfl, trivial⟩ (by repeat (first | exact trivial | refine ⟨rfl, ?_⟩)) (fun w h => h)
                      · exact ⟨by omega, take_eq_succ (0 : Int) (by omega) (by omega) hI.2 (by simpa using h11_10)⟩
                      · omega
                  · skip
                    refine wl_nil ?_
                    refine e_seq ?_
                    refine w_cond_f rfl ?_
                    refine w_exit ?_
                    refine e_seq_exit ?_
                    refine e_loop_exit ?_
                    refine e_blk_hit ?_
                    refine e_seq ?_
                    refine w_seq ?_
                    have hP : e.ports = f.ports := by
                      have := hI.2
                      rw [show j = e.ports.length by omega, List.take_length, List.take_of_length_le (by omega)] at this
                      exact this
                    refine w_region ?_
                    refine o_y (y_assign rfl) rfl rfl ?_
                    refine wl_nil ?_
                    refine e_seq ?_
                    refine w_ret ?_
                    refine e_ret (ts := [4]) rfl rfl rfl (fun w hw => ?_)
                    refine ⟨(), ?_, hw.base, (hw.weak (List.nil_sublist _) (fun s hs => hs)).toNews⟩
                    show Ending.returned (.bool _) = _
                    congr 2
                    first
                      | (have hP := hP
                         have he : e = f := by
                           cases e; cases f
                           simp_all
                         rw [decide_eq_true he]
                         done)
                      | (have hne : e ≠ f := fun h => by
                           subst h
                           exact h11_10 rfl
                         rw [decide_eq_false hne]
                         done)
                      | (have hne : e ≠ f := fun h => by
                           subst h
                           exact h6_10 rfl
                         rw [decide_eq_false hne]
                         done)
                      | (have hne : e ≠ f := fun h => by
                           subst h
                           simp_all
                         rw [decide_eq_false hne]
                         done)
                      | (trace_state; fail)

theorem c_ref16_Addrs (e : En) (A B : Option Addr) (c d : Nat) (H : Option Addr) (h : Nat) (held : List Ad) (hwh : ∀ a ∈ held, 0 ≤ a.lo) (hlh : held.length ≤ 10000000000) (hwa : ∀ a ∈ e.addrs, 0 ≤ a.lo) (hla : e.addrs.length ≤ 10000000000) (hlp : e.ports.length ≤ 10000000000) (hk : -9223372036854775808 ≤ e.kind ∧ e.kind ≤ 9223372036854775807) : RC Try.prog 47 #[.agg (enC e A B c d).toArray, .slice H held.length h] [Ch.rd A 3 adC e.addrs, Ch.rd B 1 enci e.ports, Ch.rd H 3 adC held] (α := Option Addr × Nat) (fun p => .slice p.1 (entAd e held).length p.2) (fun p => [Ch.ls p.1 p.2 54 3 adC (entAd e held)]) := by
  refine rc_of_W (args := [.agg (enC e A B c d).toArray, .slice H held.length h]) 42 Try.func47 rfl rfl rfl (fun w0 => ?_)
  refine w_seq ?_
  refine w_region ?_
  refine o_box rfl rfl rfl (fun b1 => ?_)
  refine o_y (y_assign rfl) rfl rfl ?_
  refine wl_nil ?_
  refine e_seq ?_
  refine w_seq ?_
  refine w_region ?_
  refine o_y (y_assign rfl) rfl rfl ?_
  refine wl_nil ?_
  refine e_seq ?_
  refine w_seq ?_
  refine w_seq ?_
  refine w_region ?_
  refine o_y (y_loadrs 0 ty_48 rfl rfl rfl rfl) rfl rfl ?_
  refine o_callq rfl ent_44 rfl (c_ref16_Check _ _ _ _ _ hwa (by omega) (by omega) hk) (fun w hw => (rd_cons (rd_S 0 rfl hw) (rd_cons (rd_S 1 rfl hw) rd_nil))) ?_
  refine o_y (y_neq rfl rfl) rfl rfl ?_
  refine wl_splitp (t := 9) rfl (fun h2_2 => ?_) (fun h2_2 => ?_)
  · skip
    refine wl_nil ?_
    refine e_seq ?_
    refine w_cond_t rfl ?_
    refine w_seq ?_
    refine w_region ?_
    refine o_y (y_assign rfl) rfl rfl ?_
    refine wl_nil ?_
    refine e_seq ?_
    refine w_ret ?_
    refine e_seq_ret ?_
    refine e_ret (ts := [4]) rfl rfl rfl (fun w hw => ?_)
    have hq : entAd e held = [] := if_pos h2_2
    rw [hq]
    exact ⟨(none, 0), rfl, hw.base, ((hw.weak (List.nil_sublist _) (fun s hs => hs)).nilsl 54 3).toNews⟩
  · skip
    refine wl_nil ?_
    refine e_seq ?_
    refine w_cond_f rfl ?_
    refine w_skip ?_
    refine e_seq ?_
    refine w_seq ?_
    refine w_seq ?_
    refine w_region ?_
    refine o_y (y_field fa_48_1 rfl) rfl rfl ?_
    refine o_y (y_loadr 0 ty_3 rfl rfl rfl) rfl rfl ?_
    refine o_y (y_eql rfl rfl) rfl rfl ?_
    refine wl_splitp (t := 12) rfl (fun h4_2 => ?_) (fun h4_2 => ?_)
    · skip
      refine wl_nil ?_
      refine e_seq ?_
      refine w_cond_t rfl ?_
      refine w_seq ?_
      refine w_region ?_
      refine o_y (y_move rfl) rfl rfl ?_
      refine o_y (y_field fa_48_3 rfl) rfl rfl ?_
      refine o_y (y_loadr 0 ty_45 rfl rfl rfl) rfl rfl ?_
      refine wl_heap (fun w h => h.nilsl 54 3) ?_
      refine o_appm (xs := ([] : List (Ad))) (enc := adC) (sz := 3) e.addrs Try.underlying45 ty_54 rfl rfl rfl (fun A c => .z) (src_S 0 Try.underlying45 rfl) (by simp only [List.length_cons, List.length_nil, Nat.zero_add]; omega) (by simp only [List.length_cons, List.length_nil, Nat.zero_add]; omega) rfl (fun A2 c2 => ?_)
      refine o_y (y_assign rfl) rfl rfl ?_
      refine wl_nil ?_
      refine e_seq ?_
      refine w_ret ?_
      refine e_seq_ret ?_
      refine e_ret (ts := [4]) rfl rfl rfl (fun w hw => ?_)
      have hq : entAd e held = e.addrs := by rw [entAd, if_neg h2_2, if_pos h4_2]
      rw [hq]
      exact ⟨(A2, c2), rfl, hw.base, (hw.weak (.cons_cons _ (List.nil_sublist _)) (fun s hs => hs)).toNews⟩
    · skip
      refine wl_nil ?_
      refine e_seq ?_
      refine w_cond_f rfl ?_
      refine w_skip ?_
      refine e_seq ?_
      refine w_seq ?_
      refine w_seq ?_
      refine w_region ?_
      refine o_y (y_assign rfl) rfl rfl ?_
      refine wl_nil ?_
      refine e_seq ?_
      refine w_block ?_
      refine w_heap (fun w h => h.nilsl 54 3) ?_
      refine w_loop1 (σ := Nat × Option Addr × Nat) [5, 6, 17, 18, 19, 20, 21, 22, 23, 24, 25, 26, 27, 28, 29, 30, 31, 32, 33, 34, 35, 36, 37, 38, 39, 40] (fun q => q.1 ≤ held.length ∧ (q.1 = 0 ∨ e.kind = 2)) (fun q => held.length - q.1) (fun q => [(6, .int .i64 q.1), (5, .slice q.2.1 ((held.take q.1).filter (fun a => decide (addrCk a = 0))).length q.2.2)]) (fun q => Ch.ls q.2.1 q.2.2 54 3 adC ((held.take q.1).filter (fun a => decide (addrCk a = 0)))) ((0, none, 0)) ?_ ⟨rfl, rfl, trivial⟩ rfl (fun q hI => ?_)
      · exact ⟨Nat.zero_le _, .inl rfl⟩
      obtain ⟨k, Aq, cq⟩ := q
      dsimp only at hI ⊢
      have hfl := filter_take_le (fun a => decide (addrCk a = 0)) held k
      refine w_seq ?_
      refine w_seq ?_
      refine w_region ?_
      refine o_y (y_move rfl) rfl rfl ?_
      refine o_y (y_move rfl) rfl rfl ?_
      refine o_y (y_lenl Try.underlying45 rfl) rfl rfl ?_
      refine o_y (y_lss rfl rfl) rfl rfl ?_
      refine wl_splitp (t := 20) rfl (fun h7_3 => ?_) (fun h7_3 => ?_)
      · skip
        refine o_y (y_move rfl) rfl rfl ?_
        refine wl_gyes rfl rfl ?_
        refine o_y (y_field fa_48_1 rfl) rfl rfl ?_
        refine wl_gyes rfl rfl ?_
        refine o_y (y_loadr 1 ty_3 rfl rfl rfl) rfl rfl ?_
        refine wl_gyes rfl rfl ?_
        refine o_y (y_eql rfl rfl) rfl rfl ?_
        refine wl_splitp (t := 24) rfl (fun h7_7 => ?_) (fun h7_7 => ?_)
        · skip
          refine o_y (y_pick_t rfl rfl) rfl rfl ?_
          refine wl_nil ?_
          refine e_seq ?_
          refine w_cond_t rfl ?_
          refine w_skip ?_
          refine e_seq ?_
          refine w_seq ?_
          refine w_block ?_
          refine w_seq ?_
          refine w_region ?_
          refine o_y (y_move rfl) rfl rfl ?_
          refine o_y (y_move rfl) rfl rfl ?_
          refine o_y (y_ixm  Try.underlying45 ty_54 rfl rfl (rs_S 2 rfl) rfl (by omega)) rfl rfl ?_
          refine o_y (y_ldsm0 enc_ad ad0 ty_54 rfl (rs_S 2 rfl) (by omega) rfl rfl rfl) rfl rfl ?_
          refine o_callp rfl ent_79 (c_ref04_Check _ (hwh _ (mem_getA (by omega)))) rfl ?_
          refine o_y (y_eql rfl rfl) rfl rfl ?_
          refine wl_splitp (t := 33) rfl (fun h9_5 => ?_) (fun h9_5 => ?_)
          · skip
            refine wl_nil ?_
            refine e_seq ?_
            refine w_cond_t rfl ?_
            refine w_region ?_
            refine o_y (y_move rfl) rfl rfl ?_
            refine o_y (y_move rfl) rfl rfl ?_
            refine o_y (y_move rfl) rfl rfl ?_
            refine o_y (y_ixm  Try.underlying45 ty_54 rfl rfl (rs_S 2 rfl) rfl (by omega)) rfl rfl ?_
            refine o_y (y_ldsm0 enc_ad ad0 ty_54 rfl (rs_S 2 rfl) (by omega) rfl rfl rfl) rfl rfl ?_
            refine o_bsl (vs := [_]) ([_] : List (Ad)) enc_ad Try.underlying45 ty_54 rfl rfl rfl rfl rfl rfl (fun As4 => ?_)
            refine o_appm (enc := adC) (sz := 3) _ Try.underlying45 ty_54 rfl rfl rfl (fun A c => (.s (.z))) (src_L 0 Try.underlying45 rfl) (by simp only [List.length_cons, List.length_nil, Nat.zero_add]; omega) (by simp only [List.length_cons, List.length_nil, Nat.zero_add]; omega) rfl (fun A4 c4 => ?_)
            refine o_y (y_assign rfl) rfl rfl ?_
            refine wl_nil ?_
            refine e_blk ?_
            refine e_seq ?_
            refine w_region ?_
            refine o_y (y_move rfl) rfl rfl ?_
            refine o_y (y_addi rfl rfl (by omega) (by omega)) rfl rfl ?_
            refine o_y (y_assign rfl) rfl rfl ?_
            refine wl_nil ?_
            have hfs := filter_yes (F := (fun a => decide (addrCk a = 0))) (l := held) (d := ad0) (k := k) (by omega) (by simpa using h9_5)
            refine e_back ((k + 1, A4, c4)) ?_ ?_ ⟨rfl, lk rfl (by rw [hfs]), trivial⟩ (by repeat (first | exact trivial | refine ⟨rfl, ?_⟩)) (fun w h => by show Hp _ _ (Ch.ls _ _ _ _ _ ((held.take (k + 1)).filter (fun a => decide (addrCk a = 0))) :: _) _ _; rw [hfs]; exact h.weak (.cons _ (List.Sublist.refl _)) (fun s hs => hs))
            · exact ⟨by show k + 1 ≤ _; omega, .inr (by omega)⟩
            · show held.length - (k + 1) < held.length - k
              omega
          · skip
            refine wl_nil ?_
            refine e_seq ?_
            refine w_cond_f rfl ?_
            refine w_skip ?_
            refine e_blk ?_
            refine e_seq ?_
            refine w_region ?_
            refine o_y (y_move rfl) rfl rfl ?_
            refine o_y (y_addi rfl rfl (by omega) (by omega)) rfl rfl ?_
            refine o_y (y_assign rfl) rfl rfl ?_
            refine wl_nil ?_
            have hfs := filter_no (F := (fun a => decide (addrCk a = 0))) (l := held) (d := ad0) (k := k) (by omega) (by simpa using h9_5)
            refine e_back ((k + 1, Aq, cq)) ?_ ?_ ⟨rfl, lk rfl (by rw [hfs]), trivial⟩ (by repeat (first | exact trivial | refine ⟨rfl, ?_⟩)) (fun w h => by show Hp _ _ (Ch.ls _ _ _ _ _ ((held.take (k + 1)).filter (fun a => decide (addrCk a = 0))) :: _) _ _; rw [hfs]; exact h.weak (List.Sublist.refl _) (fun s hs => hs))
            · exact ⟨by show k + 1 ≤ _; omega, .inr (by omega)⟩
            · show held.length - (k + 1) < held.length - k
              omega
        · skip
          refine o_y (y_pick_t rfl rfl) rfl rfl ?_
          refine wl_nil ?_
          refine e_seq ?_
          refine w_cond_f rfl ?_
          refine w_exit ?_
          refine e_seq_exit ?_
          refine e_loop_exit ?_
          refine e_blk_hit ?_
          refine e_seq ?_
          refine w_seq ?_
          refine w_region ?_
          refine o_y (y_move rfl) rfl rfl ?_
          refine o_y (y_assign rfl) rfl rfl ?_
          refine wl_nil ?_
          refine e_seq ?_
          refine w_ret ?_
          refine e_ret (ts := [4]) rfl rfl rfl (fun w hw => ?_)
          by_cases hk2 : e.kind = 2
          · have hkl : k = held.length := by omega
            have hq : entAd e held = held.filter fun a => decide (addrCk a = 0) := by rw [entAd, if_neg h2_2, if_neg h4_2, if_neg (by omega)]
            subst hkl
            rw [hq]
            rw [List.take_length] at hw ⊢
            exact ⟨(Aq, cq), rfl, hw.base, (hw.weak (.cons_cons _ (List.nil_sublist _)) (fun s hs => hs)).toNews⟩
          · have hk0 : k = 0 := by omega
            have hq : entAd e held = [] := by rw [entAd, if_neg h2_2, if_neg h4_2, if_pos (by omega)]
            have hz : (held.take k).filter (fun a => decide (addrCk a = 0)) = [] := by rw [hk0]; rfl
            rw [hz] at hw ⊢
            rw [hq]
            exact ⟨(Aq, cq), rfl, hw.base, (hw.weak (.cons_cons _ (List.nil_sublist _)) (fun s hs => hs)).toNews⟩
      · skip
        refine o_y (y_move rfl) rfl rfl ?_
        refine wl_gno rfl rfl rfl rfl ?_
        refine wl_gno rfl rfl rfl rfl ?_
        refine wl_gno rfl rfl rfl rfl ?_
        refine o_y (y_pick_f rfl rfl) rfl rfl ?_
        refine wl_nil ?_
        refine e_seq ?_
        refine w_cond_f rfl ?_
        refine w_exit ?_
        refine e_seq_exit ?_
        refine e_loop_exit ?_
        refine e_blk_hit ?_
        refine e_seq ?_
        refine w_seq ?_
        refine w_region ?_
        refine o_y (y_move rfl) rfl rfl ?_
        refine o_y (y_assign rfl) rfl rfl ?_
        refine wl_nil ?_
        refine e_seq ?_
        refine w_ret ?_
        refine e_ret (ts := [4]) rfl rfl rfl (fun w hw => ?_)
        by_cases hk2 : e.kind = 2
        · have hkl : k = held.length := by omega
          have hq : entAd e held = held.filter fun a => decide (addrCk a = 0) := by rw [entAd, if_neg h2_2, if_neg h4_2, if_neg (by omega)]
          subst hkl
          rw [hq]
          rw [List.take_length] at hw ⊢
          exact ⟨(Aq, cq), rfl, hw.base, (hw.weak (.cons_cons _ (List.nil_sublist _)) (fun s hs => hs)).toNews⟩
        · have hk0 : k = 0 := by omega
          have hq : entAd e held = [] := by rw [entAd, if_neg h2_2, if_neg h4_2, if_pos (by omega)]
          have hz : (held.take k).filter (fun a => decide (addrCk a = 0)) = [] := by rw [hk0]; rfl
          rw [hz] at hw ⊢
          rw [hq]
          exact ⟨(Aq, cq), rfl, hw.base, (hw.weak (.cons_cons _ (List.nil_sublist _)) (fun s hs => hs)).toNews⟩


def Bf1 (t : Int) (a : Ad) : Bool := decide ((t = 1 ∧ a.six = false) ∨ (t = 28 ∧ a.six = true))
def D1 (a : Ad) : Dt := { dt0 with ad := a }
def D2 (owner : Str) (p : Int) : Dt := { dt0 with name := owner, n2 := IntKind.u32.wrap p }
def r0R (e : En) (owner : Str) (t : Int) : Rc := ⟨owner, t, 1, e.ttl, dt0⟩
theorem each_none {α : Type} {D : α → Dt} {B : α → Bool} {r : Rc} {l : List α} (h : ∀ a, B a = false) : each D B r l = [] := by
  rw [each, show l.filter B = [] from List.filter_eq_nil_iff.2 (fun a _ => by rw [h a]; decide)]; rfl
def o1R (e : En) (owner : Str) (held : List Ad) (t : Int) : List Rc := each D1 (Bf1 t) (r0R e owner t) (entAd e held)
theorem bf1_28 {t : Int} (h : t = 1 ∨ t = 28) : Bf1 t = fun a => decide (a.six = decide (t = 28)) := by
  funext a
  rcases h with rfl | rfl <;> cases h2 : a.six <;> simp [Bf1, h2]
theorem bf1_none {t : Int} (h : ¬ (t = 1 ∨ t = 28)) (a : Ad) : Bf1 t a = false := by
  simp only [Bf1, decide_eq_false_iff_not]; omega
theorem recs_ref {e : En} {owner : Str} {held : List Ad} {t : Int} (h1 : ¬ entCk e ≠ 0) (h2 : ¬ nameCk owner ≠ 0) : recs e owner held t =
    o1R e owner held t ++ (if t = 33 then each (D2 owner) (fun _ => true) (r0R e owner t) e.ports else []) ++ (if t = 5 ∧ e.kind = 3 then [{ r0R e owner t with dt := { dt0 with name := e.alias } }] else []) := by
  rw [recs_eq h1 h2]
  by_cases c1 : t = 1 ∨ t = 28
  · rw [if_pos c1, if_neg (by omega), if_neg (by omega), o1R, bf1_28 c1]; simp; rfl
  · rw [if_neg c1, o1R, each_none (bf1_none c1)]
    by_cases c2 : t = 33
    · rw [if_pos c2, if_pos c2, if_neg (by omega)]; simp; rfl
    · rw [if_neg c2, if_neg c2]
      by_cases c3 : t = 5
      · rw [if_pos c3]
        by_cases c4 : e.kind = 3
        · rw [if_pos ⟨c3, c4⟩]; simp [each, c4, r0R]
        · rw [if_neg (fun h => c4 h.2)]; simp [each, c4]
      · rw [if_neg c3, if_neg (fun h => c3 h.1)]; rfl


theorem c_ref16_Records (e : En) (A B : Option Addr) (c d : Nat) (owner : Str) (t : Int) (H : Option Addr) (h : Nat) (held : List Ad) (hwh : ∀ a ∈ held, 0 ≤ a.lo) (hlh : held.length ≤ 10000000000) (hwa : ∀ a ∈ e.addrs, 0 ≤ a.lo) (hla : e.addrs.length ≤ 10000000000) (hlp : e.ports.length ≤ 10000000000) (hk : -9223372036854775808 ≤ e.kind ∧ e.kind ≤ 9223372036854775807) : RC Try.prog 43 #[.agg (enC e A B c d).toArray, .string (ba owner), .slice H held.length h, .int .i64 t] [Ch.rd A 3 adC e.addrs, Ch.rd B 1 enci e.ports, Ch.rd H 3 adC held] (α := Option Addr × Nat) (fun p => .slice p.1 (recs e owner held t).length p.2) (fun p => [Ch.ls p.1 p.2 60 16 rcC (recs e owner held t)]) := by
  refine rc_of_W (args := [.agg (enC e A B c d).toArray, .string (ba owner), .slice H held.length h, .int .i64 t]) 108 Try.func43 rfl rfl rfl (fun w0 => ?_)
  refine w_seq ?_
  refine w_region ?_
  refine o_box rfl rfl rfl (fun b1 => ?_)
  refine o_y (y_assign rfl) rfl rfl ?_
  refine wl_nil ?_
  refine e_seq ?_
  refine w_seq ?_
  refine w_region ?_
  refine o_y (y_assign rfl) rfl rfl ?_
  refine wl_nil ?_
  refine e_seq ?_
  refine w_seq ?_
  refine w_seq ?_
  refine w_region ?_
  refine o_y (y_loadrs 0 ty_48 rfl rfl rfl rfl) rfl rfl ?_
  refine o_callq rfl ent_44 rfl (c_ref16_Check _ _ _ _ _ hwa (by omega) (by omega) hk) (fun w hw => (rd_cons (rd_S 0 rfl hw) (rd_cons (rd_S 1 rfl hw) rd_nil))) ?_
  refine o_y (y_neq rfl rfl) rfl rfl ?_
  refine wl_splitp (t := 16) rfl (fun h2_2 => ?_) (fun h2_2 => ?_)
  · skip
    refine o_y (y_move rfl) rfl rfl ?_
    refine wl_gno rfl rfl rfl rfl ?_
    refine wl_gno rfl rfl rfl rfl ?_
    refine wl_gno rfl rfl rfl rfl ?_
    refine o_y (y_pick_t rfl rfl) rfl rfl ?_
    refine wl_nil ?_
    refine e_seq ?_
    refine w_cond_t rfl ?_
    refine w_seq ?_
    refine w_region ?_
    refine o_y (y_assign rfl) rfl rfl ?_
    refine wl_nil ?_
    refine e_seq ?_
    refine w_ret ?_
    refine e_seq_ret ?_
    refine e_ret (ts := [8]) rfl rfl rfl (fun w hw => ?_)
    first
      | (have hq : recs e owner held t = [] := recs_nil1 (by omega)
         rw [hq]
         exact ⟨(none, 0), rfl, hw.base, ((hw.weak (List.nil_sublist _) (fun s hs => hs)).nilsl 60 16).toNews⟩)
      | (have hq := recs_ref (e := e) (owner := owner) (held := held) (t := t) (by omega) (by omega)
         have hp : (if t = 33 then each (D2 owner) (fun _ => true) (r0R e owner t) e.ports else []) = each (D2 owner) (fun _ => true) (r0R e owner t) (e.ports.take j) := by
           by_cases c : t = 33
           · rw [if_pos c, show j = e.ports.length by omega, List.take_length]
           · rw [if_neg c, show j = 0 by omega]; simp [each]
         rw [hp, if_neg (by omega)] at hq
         rw [List.append_nil] at hq
         rw [hq]
         exact ⟨(Aj, cj), rfl, hw.base, (hw).toNews⟩)
      | (trace_state; fail)
  · skip
    refine o_y (y_move rfl) rfl rfl ?_
    refine wl_gyes rfl rfl ?_
    refine o_y (y_move rfl) rfl rfl ?_
    refine wl_gyes rfl rfl ?_
    refine o_callp rfl ent_35 (c_ref02_Check _) rfl ?_
    refine wl_gyes rfl rfl ?_
    refine o_y (y_neq rfl rfl) rfl rfl ?_
    refine wl_splitp (t := 20) rfl (fun h2_6 => ?_) (fun h2_6 => ?_)
    · skip
      refine o_y (y_pick_f rfl rfl) rfl rfl ?_
      refine wl_nil ?_
      refine e_seq ?_
      refine w_cond_t rfl ?_
      refine w_seq ?_
      refine w_region ?_
      refine o_y (y_assign rfl) rfl rfl ?_
      refine wl_nil ?_
      refine e_seq ?_
      refine w_ret ?_
      refine e_seq_ret ?_
      refine e_ret (ts := [8]) rfl rfl rfl (fun w hw => ?_)
      first
        | (have hq : recs e owner held t = [] := recs_nil1 (by omega)
           rw [hq]
           exact ⟨(none, 0), rfl, hw.base, ((hw.weak (List.nil_sublist _) (fun s hs => hs)).nilsl 60 16).toNews⟩)
        | (have hq := recs_ref (e := e) (owner := owner) (held := held) (t := t) (by omega) (by omega)
           have hp : (if t = 33 then each (D2 owner) (fun _ => true) (r0R e owner t) e.ports else []) = each (D2 owner) (fun _ => true) (r0R e owner t) (e.ports.take j) := by
             by_cases c : t = 33
             · rw [if_pos c, show j = e.ports.length by omega, List.take_length]
             · rw [if_neg c, show j = 0 by omega]; simp [each]
           rw [hp, if_neg (by omega)] at hq
           rw [List.append_nil] at hq
           rw [hq]
           exact ⟨(Aj, cj), rfl, hw.base, (hw).toNews⟩)
        | (trace_state; fail)
    · skip
      refine o_y (y_pick_f rfl rfl) rfl rfl ?_
      refine wl_nil ?_
      refine e_seq ?_
      refine w_cond_f rfl ?_
      refine w_skip ?_
      refine e_seq ?_
      refine w_seq ?_
      refine w_region ?_
      refine o_y (y_move rfl) rfl rfl ?_
      refine o_y (y_move rfl) rfl rfl ?_
      refine o_y (y_field fa_48_6 rfl) rfl rfl ?_
      refine o_y (y_loadr 0 ty_46 rfl rfl rfl) rfl rfl ?_
      refine o_y (y_build rfl (bu_60_0_1_2_3 _ _ _ _)) rfl rfl ?_
      refine o_alloc ty_60 rfl rfl (fun b2 => ?_)
      refine o_store ty_60 rfl rfl rfl .z rfl rfl rfl rfl ?_
      refine wl_nil ?_
      refine e_seq ?_
      refine w_seq ?_
      refine w_region ?_
      refine o_y (y_loadrs 1 ty_48 rfl rfl rfl rfl) rfl rfl ?_
      refine o_y (y_move rfl) rfl rfl ?_
      refine o_callr1 rfl ent_47 rfl (c_ref16_Addrs _ _ _ _ _ _ _ _ hwh (by omega) hwa (by omega) (by omega) hk) (fun w hw => (rd_cons (rd_S 0 rfl hw) (rd_cons (rd_S 1 rfl hw) (rd_cons (rd_S 2 rfl hw) rd_nil)))) (fun ⟨A2, c2⟩ => ?_)
      refine o_y (y_assign rfl) rfl rfl ?_
      refine wl_nil ?_
      refine e_seq ?_
      refine w_seq ?_
      refine w_seq ?_
      refine w_region ?_
      have hel := entAd_le e held
      refine o_y (y_assign rfl) rfl rfl ?_
      refine wl_nil ?_
      refine e_seq ?_
      refine w_block ?_
      refine w_heap (fun w h => h.f1) ?_
      refine w_heap (fun w h => h.nilsl 60 16) ?_
      refine w_loop2 (σ := Nat × Dt × Option Addr × Nat) [9, 12, 30, 31, 32, 33, 34, 35, 36, 37, 38, 39, 40, 41, 42, 43, 44, 45, 46, 47, 48, 49, 50, 51, 52, 53, 54, 55, 56, 57, 58, 59, 60, 61, 62, 63, 64, 65, 66] (fun q => q.1 ≤ (entAd e held).length) (fun q => (entAd e held).length - q.1) (fun q => [(12, .int .i64 q.1), (9, .slice q.2.2.1 (each D1 (Bf1 t) (r0R e owner t) ((entAd e held).take q.1)).length q.2.2.2)]) (fun q => Ch.ls q.2.2.1 q.2.2.2 60 16 rcC (each D1 (Bf1 t) (r0R e owner t) ((entAd e held).take q.1))) (fun q => Ch.row b2 (rcC { r0R e owner t with dt := q.2.1 }) 60) ((0, dt0, none, 0)) ?_ ⟨rfl, rfl, trivial⟩ rfl rfl (fun q hI => ?_)
      · exact Nat.zero_le _
      obtain ⟨k, dc, Aq, cq⟩ := q
      dsimp only at hI ⊢
      have hel2 := each_le D1 (Bf1 t) (r0R e owner t) (entAd e held) k
      refine w_seq ?_
      refine w_seq ?_
      refine w_region ?_
      refine o_y (y_move rfl) rfl rfl ?_
      refine o_y (y_move rfl) rfl rfl ?_
      refine o_y (y_lenl Try.underlying45 rfl) rfl rfl ?_
      refine o_y (y_lss rfl rfl) rfl rfl ?_
      refine wl_splitp (t := 33) rfl (fun h7_3 => ?_) (fun h7_3 => ?_)
      · skip
        refine wl_nil ?_
        refine e_seq ?_
        refine w_cond_t rfl ?_
        refine w_skip ?_
        refine e_seq ?_
        refine w_seq ?_
        refine w_block ?_
        refine w_seq ?_
        refine w_region ?_
        refine o_y (y_move rfl) rfl rfl ?_
        refine o_y (y_eql rfl rfl) rfl rfl ?_
        refine wl_splitp (t := 37) rfl (fun h9_1 => ?_) (fun h9_1 => ?_)
        · skip
          refine o_y (y_move rfl) rfl rfl ?_
          refine wl_gyes rfl rfl ?_
          refine o_y (y_move rfl) rfl rfl ?_
          refine wl_gyes rfl rfl ?_
          refine o_y (y_move rfl) rfl rfl ?_
          refine wl_gyes rfl rfl ?_
          refine o_y (y_ixm  Try.underlying45 ty_54 rfl rfl (rs_L 2 rfl) rfl (by omega)) rfl rfl ?_
          refine wl_gyes rfl rfl ?_
          refine o_y (y_field fa_54_0 rfl) rfl rfl ?_
          refine wl_gyes rfl rfl ?_
          refine o_y (y_ldm0 enc_ad ad0 ty_4 rfl (rs_L 2 rfl) (by omega) rfl rfl) rfl rfl ?_
          refine wl_splitb (t := 43) rfl (fun h9_7 => ?_) (fun h9_7 => ?_)
          · skip
            refine wl_gyes rfl rfl ?_
            refine o_y (y_not rfl) rfl rfl ?_
            refine o_y (y_pick_t rfl rfl) rfl rfl ?_
            refine o_y (y_move rfl) rfl rfl ?_
            refine wl_gyes rfl rfl ?_
            refine o_y (y_move rfl) rfl rfl ?_
            refine wl_gyes rfl rfl ?_
            refine o_y (y_eql rfl rfl) rfl rfl ?_
            refine wl_splitp (t := 48) rfl (fun h9_12 => ?_) (fun h9_12 => ?_)
            · skip
              refine wl_gyes rfl rfl ?_
              refine o_y (y_move rfl) rfl rfl ?_
              refine wl_gyes rfl rfl ?_
              refine o_y (y_move rfl) rfl rfl ?_
              refine wl_gyes rfl rfl ?_
              refine o_y (y_move rfl) rfl rfl ?_
              refine wl_gyes rfl rfl ?_
              refine o_y (y_ixm  Try.underlying45 ty_54 rfl rfl (rs_L 2 rfl) rfl (by omega)) rfl rfl ?_
              refine wl_gyes rfl rfl ?_
              refine o_y (y_field fa_54_0 rfl) rfl rfl ?_
              refine wl_gyes rfl rfl ?_
              refine o_y (y_ldm0 enc_ad ad0 ty_4 rfl (rs_L 2 rfl) (by omega) rfl rfl) rfl rfl ?_
              refine wl_splitb (t := 54) rfl (fun h9_18 => ?_) (fun h9_18 => ?_)
              · skip
                refine wl_gyes rfl rfl ?_
                refine o_y (y_pick_t rfl rfl) rfl rfl ?_
                refine o_y (y_pick_f rfl rfl) rfl rfl ?_
                refine wl_nil ?_
                refine e_seq ?_
                refine w_cond_t rfl ?_
                refine w_seq ?_
                refine w_region ?_
                refine o_y (y_move rfl) rfl rfl ?_
                refine o_y (y_move rfl) rfl rfl ?_
                refine o_y (y_ixm  Try.underlying45 ty_54 rfl rfl (rs_L 2 rfl) rfl (by omega)) rfl rfl ?_
                refine o_y (y_ldsm0 enc_ad ad0 ty_54 rfl (rs_L 2 rfl) (by omega) rfl rfl rfl) rfl rfl ?_
                refine o_y (y_build rfl (bu_58_0 _ _ _)) rfl rfl ?_
                refine o_y (y_field fa_60_4 rfl) rfl rfl ?_
                refine o_store ty_58 rfl rfl rfl (.s (.z)) rfl rfl rfl rfl ?_
                refine wl_nil ?_
                refine e_seq ?_
                refine w_region ?_
                refine o_y (y_move rfl) rfl rfl ?_
                refine o_y (y_loadrs 1 ty_60 rfl rfl rfl rfl) rfl rfl ?_
                refine o_bsl (vs := [_]) ([{ r0R e owner t with dt := D1 ((entAd e held).getD k ad0) }] : List (Rc)) enc_rc Try.underlying50 ty_60 rfl rfl rfl rfl rfl rfl (fun As4 => ?_)
                refine o_appm (enc := rcC) (sz := 16) [{ r0R e owner t with dt := D1 ((entAd e held).getD k ad0) }] Try.underlying50 ty_60 rfl rfl rfl (fun A c => (.s (.z))) (src_L 0 Try.underlying50 rfl) (by simp only [List.length_cons, List.length_nil, Nat.zero_add]; omega) (by simp only [List.length_cons, List.length_nil, Nat.zero_add]; omega) rfl (fun A4 c4 => ?_)
                refine o_y (y_assign rfl) rfl rfl ?_
                refine wl_nil ?_
                refine e_blk ?_
                refine e_seq ?_
                refine w_region ?_
                refine o_y (y_move rfl) rfl rfl ?_
                refine o_y (y_addi rfl rfl (by omega) (by omega)) rfl rfl ?_
                refine o_y (y_assign rfl) rfl rfl ?_
                refine wl_nil ?_
                have hes := each_yes (D := D1) (B := Bf1 t) (r := r0R e owner t) (l := entAd e held) (d := ad0) (k := k) (by omega) (by first | (exfalso; omega) | (simp_all [Bf1]; done) | (simp_all [Bf1]; omega))
                refine e_back ((k + 1, D1 ((entAd e held).getD k ad0), A4, c4)) ?_ ?_ ⟨rfl, lk rfl (by rw [hes]), trivial⟩ (by repeat (first | exact trivial | refine ⟨rfl, ?_⟩)) (fun w h => by show Hp _ _ (Ch.ls _ _ _ _ _ (each D1 (Bf1 t) (r0R e owner t) ((entAd e held).take (k + 1))) :: _) _ _; rw [hes]; exact h.weak (.cons _ (List.Sublist.refl _)) (fun s hs => hs))
                · show k + 1 ≤ _
                  omega
                · show (entAd e held).length - (k + 1) < (entAd e held).length - k
                  omega
              · skip
                refine wl_gyes rfl rfl ?_
                refine o_y (y_pick_t rfl rfl) rfl rfl ?_
                refine o_y (y_pick_f rfl rfl) rfl rfl ?_
                refine wl_nil ?_
                refine e_seq ?_
                refine w_cond_f rfl ?_
                refine w_skip ?_
                refine e_blk ?_
                refine e_seq ?_
                refine w_region ?_
                refine o_y (y_move rfl) rfl rfl ?_
                refine o_y (y_addi rfl rfl (by omega) (by omega)) rfl rfl ?_
                refine o_y (y_assign rfl) rfl rfl ?_
                refine wl_nil ?_
                have hes := each_no (D := D1) (B := Bf1 t) (r := r0R e owner t) (l := entAd e held) (d := ad0) (k := k) (by omega) (by first | (exfalso; omega) | (simp_all [Bf1]; done) | (simp_all [Bf1]; omega))
                refine e_back ((k + 1, dc, Aq, cq)) ?_ ?_ ⟨rfl, lk rfl (by rw [hes]), trivial⟩ (by repeat (first | exact trivial | refine ⟨rfl, ?_⟩)) (fun w h => by show Hp _ _ (Ch.ls _ _ _ _ _ (each D1 (Bf1 t) (r0R e owner t) ((entAd e held).take (k + 1))) :: _) _ _; rw [hes]; exact h.weak (List.Sublist.refl _) (fun s hs => hs))
                · show k + 1 ≤ _
                  omega
                · show (entAd e held).length - (k + 1) < (entAd e held).length - k
                  omega
            · skip
              refine wl_gyes rfl rfl ?_
              refine o_y (y_move rfl) rfl rfl ?_
              refine wl_gno rfl rfl rfl rfl ?_
              refine wl_gno rfl rfl rfl rfl ?_
              refine wl_gno rfl rfl rfl rfl ?_
              refine wl_gno rfl rfl rfl rfl ?_
              refine wl_gno rfl rfl rfl rfl ?_
              refine wl_gyes rfl rfl ?_
              refine o_y (y_pick_f rfl rfl) rfl rfl ?_
              refine o_y (y_pick_f rfl rfl) rfl rfl ?_
              refine wl_nil ?_
              refine e_seq ?_
              refine w_cond_f rfl ?_
              refine w_skip ?_
              refine e_blk ?_
              refine e_seq ?_
              refine w_region ?_
              refine o_y (y_move rfl) rfl rfl ?_
              refine o_y (y_addi rfl rfl (by omega) (by omega)) rfl rfl ?_
              refine o_y (y_assign rfl) rfl rfl ?_
              refine wl_nil ?_
              have hes := each_no (D := D1) (B := Bf1 t) (r := r0R e owner t) (l := entAd e held) (d := ad0) (k := k) (by omega) (by first | (exfalso; omega) | (simp_all [Bf1]; done) | (simp_all [Bf1]; omega))
              refine e_back ((k + 1, dc, Aq, cq)) ?_ ?_ ⟨rfl, lk rfl (by rw [hes]), trivial⟩ (by repeat (first | exact trivial | refine ⟨rfl, ?_⟩)) (fun w h => by show Hp _ _ (Ch.ls _ _ _ _ _ (each D1 (Bf1 t) (r0R e owner t) ((entAd e held).take (k + 1))) :: _) _ _; rw [hes]; exact h.weak (List.Sublist.refl _) (fun s hs => hs))
              · show k + 1 ≤ _
                omega
              · show (entAd e held).length - (k + 1) < (entAd e held).length - k
                omega
          · skip
            refine wl_gyes rfl rfl ?_
            refine o_y (y_not rfl) rfl rfl ?_
            refine o_y (y_pick_t rfl rfl) rfl rfl ?_
            refine o_y (y_move rfl) rfl rfl ?_
            refine wl_gno rfl rfl rfl rfl ?_
            refine wl_gno rfl rfl rfl rfl ?_
            refine wl_gno rfl rfl rfl rfl ?_
            refine wl_gnou rfl rfl rfl ?_
            refine wl_gnou rfl rfl rfl ?_
            refine wl_gnou rfl rfl rfl ?_
            refine wl_gnou rfl rfl rfl ?_
            refine wl_gnou rfl rfl rfl ?_
            refine wl_gno rfl rfl rfl rfl ?_
            refine o_y (y_pick_t rfl rfl) rfl rfl ?_
            refine wl_nil ?_
            refine e_seq ?_
            refine w_cond_t rfl ?_
            refine w_seq ?_
            refine w_region ?_
            refine o_y (y_move rfl) rfl rfl ?_
            refine o_y (y_move rfl) rfl rfl ?_
            refine o_y (y_ixm  Try.underlying45 ty_54 rfl rfl (rs_L 2 rfl) rfl (by omega)) rfl rfl ?_
            refine o_y (y_ldsm0 enc_ad ad0 ty_54 rfl (rs_L 2 rfl) (by omega) rfl rfl rfl) rfl rfl ?_
            refine o_y (y_build rfl (bu_58_0 _ _ _)) rfl rfl ?_
            refine o_y (y_field fa_60_4 rfl) rfl rfl ?_
            refine o_store ty_58 rfl rfl rfl (.s (.z)) rfl rfl rfl rfl ?_
            refine wl_nil ?_
            refine e_seq ?_
            refine w_region ?_
            refine o_y (y_move rfl) rfl rfl ?_
            refine o_y (y_loadrs 1 ty_60 rfl rfl rfl rfl) rfl rfl ?_
            refine o_bsl (vs := [_]) ([{ r0R e owner t with dt := D1 ((entAd e held).getD k ad0) }] : List (Rc)) enc_rc Try.underlying50 ty_60 rfl rfl rfl rfl rfl rfl (fun As6 => ?_)
            refine o_appm (enc := rcC) (sz := 16) [{ r0R e owner t with dt := D1 ((entAd e held).getD k ad0) }] Try.underlying50 ty_60 rfl rfl rfl (fun A c => (.s (.z))) (src_L 0 Try.underlying50 rfl) (by simp only [List.length_cons, List.length_nil, Nat.zero_add]; omega) (by simp only [List.length_cons, List.length_nil, Nat.zero_add]; omega) rfl (fun A6 c6 => ?_)
            refine o_y (y_assign rfl) rfl rfl ?_
            refine wl_nil ?_
            refine e_blk ?_
            refine e_seq ?_
            refine w_region ?_
            refine o_y (y_move rfl) rfl rfl ?_
            refine o_y (y_addi rfl rfl (by omega) (by omega)) rfl rfl ?_
            refine o_y (y_assign rfl) rfl rfl ?_
            refine wl_nil ?_
            have hes := each_yes (D := D1) (B := Bf1 t) (r := r0R e owner t) (l := entAd e held) (d := ad0) (k := k) (by omega) (by first | (exfalso; omega) | (simp_all [Bf1]; done) | (simp_all [Bf1]; omega))
            refine e_back ((k + 1, D1 ((entAd e held).getD k ad0), A6, c6)) ?_ ?_ ⟨rfl, lk rfl (by rw [hes]), trivial⟩ (by repeat (first | exact trivial | refine ⟨rfl, ?_⟩)) (fun w h => by show Hp _ _ (Ch.ls _ _ _ _ _ (each D1 (Bf1 t) (r0R e owner t) ((entAd e held).take (k + 1))) :: _) _ _; rw [hes]; exact h.weak (.cons _ (List.Sublist.refl _)) (fun s hs => hs))
            · show k + 1 ≤ _
              omega
            · show (entAd e held).length - (k + 1) < (entAd e held).length - k
              omega
        · skip
          refine o_y (y_move rfl) rfl rfl ?_
          refine wl_gno rfl rfl rfl rfl ?_
          refine wl_gno rfl rfl rfl rfl ?_
          refine wl_gno rfl rfl rfl rfl ?_
          refine wl_gno rfl rfl rfl rfl ?_
          refine wl_gno rfl rfl rfl rfl ?_
          refine wl_gno rfl rfl rfl rfl ?_
          refine o_y (y_pick_f rfl rfl) rfl rfl ?_
          refine o_y (y_move rfl) rfl rfl ?_
          refine wl_gyes rfl rfl ?_
          refine o_y (y_move rfl) rfl rfl ?_
          refine wl_gyes rfl rfl ?_
          refine o_y (y_eql rfl rfl) rfl rfl ?_
          refine wl_splitp (t := 48) rfl (fun h9_12 => ?_) (fun h9_12 => ?_)
          · skip
            refine wl_gyes rfl rfl ?_
            refine o_y (y_move rfl) rfl rfl ?_
            refine wl_gyes rfl rfl ?_
            refine o_y (y_move rfl) rfl rfl ?_
            refine wl_gyes rfl rfl ?_
            refine o_y (y_move rfl) rfl rfl ?_
            refine wl_gyes rfl rfl ?_
            refine o_y (y_ixm  Try.underlying45 ty_54 rfl rfl (rs_L 2 rfl) rfl (by omega)) rfl rfl ?_
            refine wl_gyes rfl rfl ?_
            refine o_y (y_field fa_54_0 rfl) rfl rfl ?_
            refine wl_gyes rfl rfl ?_
            refine o_y (y_ldm0 enc_ad ad0 ty_4 rfl (rs_L 2 rfl) (by omega) rfl rfl) rfl rfl ?_
            refine wl_splitb (t := 54) rfl (fun h9_18 => ?_) (fun h9_18 => ?_)
            · skip
              refine wl_gyes rfl rfl ?_
              refine o_y (y_pick_t rfl rfl) rfl rfl ?_
              refine o_y (y_pick_f rfl rfl) rfl rfl ?_
              refine wl_nil ?_
              refine e_seq ?_
              refine w_cond_t rfl ?_
              refine w_seq ?_
              refine w_region ?_
              refine o_y (y_move rfl) rfl rfl ?_
              refine o_y (y_move rfl) rfl rfl ?_
              refine o_y (y_ixm  Try.underlying45 ty_54 rfl rfl (rs_L 2 rfl) rfl (by omega)) rfl rfl ?_
              refine o_y (y_ldsm0 enc_ad ad0 ty_54 rfl (rs_L 2 rfl) (by omega) rfl rfl rfl) rfl rfl ?_
              refine o_y (y_build rfl (bu_58_0 _ _ _)) rfl rfl ?_
              refine o_y (y_field fa_60_4 rfl) rfl rfl ?_
              refine o_store ty_58 rfl rfl rfl (.s (.z)) rfl rfl rfl rfl ?_
              refine wl_nil ?_
              refine e_seq ?_
              refine w_region ?_
              refine o_y (y_move rfl) rfl rfl ?_
              refine o_y (y_loadrs 1 ty_60 rfl rfl rfl rfl) rfl rfl ?_
              refine o_bsl (vs := [_]) ([{ r0R e owner t with dt := D1 ((entAd e held).getD k ad0) }] : List (Rc)) enc_rc Try.underlying50 ty_60 rfl rfl rfl rfl rfl rfl (fun As8 => ?_)
              refine o_appm (enc := rcC) (sz := 16) [{ r0R e owner t with dt := D1 ((entAd e held).getD k ad0) }] Try.underlying50 ty_60 rfl rfl rfl (fun A c => (.s (.z))) (src_L 0 Try.underlying50 rfl) (by simp only [List.length_cons, List.length_nil, Nat.zero_add]; omega) (by simp only [List.length_cons, List.length_nil, Nat.zero_add]; omega) rfl (fun A8 c8 => ?_)
              refine o_y (y_assign rfl) rfl rfl ?_
              refine wl_nil ?_
              refine e_blk ?_
              refine e_seq ?_
              refine w_region ?_
              refine o_y (y_move rfl) rfl rfl ?_
              refine o_y (y_addi rfl rfl (by omega) (by omega)) rfl rfl ?_
              refine o_y (y_assign rfl) rfl rfl ?_
              refine wl_nil ?_
              have hes := each_yes (D := D1) (B := Bf1 t) (r := r0R e owner t) (l := entAd e held) (d := ad0) (k := k) (by omega) (by first | (exfalso; omega) | (simp_all [Bf1]; done) | (simp_all [Bf1]; omega))
              refine e_back ((k + 1, D1 ((entAd e held).getD k ad0), A8, c8)) ?_ ?_ ⟨rfl, lk rfl (by rw [hes]), trivial⟩ (by repeat (first | exact trivial | refine ⟨rfl, ?_⟩)) (fun w h => by show Hp _ _ (Ch.ls _ _ _ _ _ (each D1 (Bf1 t) (r0R e owner t) ((entAd e held).take (k + 1))) :: _) _ _; rw [hes]; exact h.weak (.cons _ (List.Sublist.refl _)) (fun s hs => hs))
              · show k + 1 ≤ _
                omega
              · show (entAd e held).length - (k + 1) < (entAd e held).length - k
                omega
            · skip
              refine wl_gyes rfl rfl ?_
              refine o_y (y_pick_t rfl rfl) rfl rfl ?_
              refine o_y (y_pick_f rfl rfl) rfl rfl ?_
              refine wl_nil ?_
              refine e_seq ?_
              refine w_cond_f rfl ?_
              refine w_skip ?_
              refine e_blk ?_
              refine e_seq ?_
              refine w_region ?_
              refine o_y (y_move rfl) rfl rfl ?_
              refine o_y (y_addi rfl rfl (by omega) (by omega)) rfl rfl ?_
              refine o_y (y_assign rfl) rfl rfl ?_
              refine wl_nil ?_
              have hes := each_no (D := D1) (B := Bf1 t) (r := r0R e owner t) (l := entAd e held) (d := ad0) (k := k) (by omega) (by first | (exfalso; omega) | (simp_all [Bf1]; done) | (simp_all [Bf1]; omega))
              refine e_back ((k + 1, dc, Aq, cq)) ?_ ?_ ⟨rfl, lk rfl (by rw [hes]), trivial⟩ (by repeat (first | exact trivial | refine ⟨rfl, ?_⟩)) (fun w h => by show Hp _ _ (Ch.ls _ _ _ _ _ (each D1 (Bf1 t) (r0R e owner t) ((entAd e held).take (k + 1))) :: _) _ _; rw [hes]; exact h.weak (List.Sublist.refl _) (fun s hs => hs))
              · show k + 1 ≤ _
                omega
              · show (entAd e held).length - (k + 1) < (entAd e held).length - k
                omega
          · skip
            refine wl_gyes rfl rfl ?_
            refine o_y (y_move rfl) rfl rfl ?_
            refine wl_gno rfl rfl rfl rfl ?_
            refine wl_gno rfl rfl rfl rfl ?_
            refine wl_gno rfl rfl rfl rfl ?_
            refine wl_gno rfl rfl rfl rfl ?_
            refine wl_gno rfl rfl rfl rfl ?_
            refine wl_gyes rfl rfl ?_
            refine o_y (y_pick_f rfl rfl) rfl rfl ?_
            refine o_y (y_pick_f rfl rfl) rfl rfl ?_
            refine wl_nil ?_
            refine e_seq ?_
            refine w_cond_f rfl ?_
            refine w_skip ?_
            refine e_blk ?_
            refine e_seq ?_
            refine w_region ?_
            refine o_y (y_move rfl) rfl rfl ?_
            refine o_y (y_addi rfl rfl (by omega) (by omega)) rfl rfl ?_
            refine o_y (y_assign rfl) rfl rfl ?_
            refine wl_nil ?_
            have hes := each_no (D := D1) (B := Bf1 t) (r := r0R e owner t) (l := entAd e held) (d := ad0) (k := k) (by omega) (by first | (exfalso; omega) | (simp_all [Bf1]; done) | (simp_all [Bf1]; omega))
            refine e_back ((k + 1, dc, Aq, cq)) ?_ ?_ ⟨rfl, lk rfl (by rw [hes]), trivial⟩ (by repeat (first | exact trivial | refine ⟨rfl, ?_⟩)) (fun w h => by show Hp _ _ (Ch.ls _ _ _ _ _ (each D1 (Bf1 t) (r0R e owner t) ((entAd e held).take (k + 1))) :: _) _ _; rw [hes]; exact h.weak (List.Sublist.refl _) (fun s hs => hs))
            · show k + 1 ≤ _
              omega
            · show (entAd e held).length - (k + 1) < (entAd e held).length - k
              omega
      · skip
        refine wl_nil ?_
        refine e_seq ?_
        refine w_cond_f rfl ?_
        refine w_exit ?_
        refine e_seq_exit ?_
        refine e_loop_exit ?_
        refine e_blk_hit ?_
        refine e_seq ?_
        refine w_seq ?_
        refine w_seq ?_
        refine w_region ?_
        refine o_y (y_assign rfl) rfl rfl ?_
        refine wl_nil ?_
        refine e_seq ?_
        refine w_block ?_
        have hk9 : k = (entAd e held).length := by omega
        subst hk9
        have ho1 : each D1 (Bf1 t) (r0R e owner t) ((entAd e held).take (entAd e held).length) = o1R e owner held t ++ each (D2 owner) (fun _ => true) (r0R e owner t) (e.ports.take 0) := by rw [List.take_length]; simp [o1R, each]
        have ho2 : (o1R e owner held t).length ≤ (entAd e held).length := by
          have := each_le D1 (Bf1 t) (r0R e owner t) (entAd e held) (entAd e held).length
          rw [List.take_length] at this
          exact this
        refine w_loop2 (σ := Nat × Dt × Option Addr × Nat) [9, 13, 67, 68, 69, 70, 71, 72, 73, 74, 75, 76, 77, 78, 79, 80, 81, 82, 83, 84, 85, 86, 87, 88, 89, 90, 91] (fun q => q.1 ≤ e.ports.length ∧ (q.1 = 0 ∨ t = 33)) (fun q => e.ports.length - q.1) (fun q => [(13, .int .i64 q.1), (9, .slice q.2.2.1 (o1R e owner held t ++ each (D2 owner) (fun _ => true) (r0R e owner t) (e.ports.take q.1)).length q.2.2.2)]) (fun q => Ch.ls q.2.2.1 q.2.2.2 60 16 rcC (o1R e owner held t ++ each (D2 owner) (fun _ => true) (r0R e owner t) (e.ports.take q.1))) (fun q => Ch.row b2 (rcC { r0R e owner t with dt := q.2.1 }) 60) ((0, dc, Aq, cq)) ?_ ⟨rfl, lk rfl (by rw [ho1]), trivial⟩ (by rw [ho1]) rfl (fun q hI => ?_)
        · exact ⟨Nat.zero_le _, .inl rfl⟩
        obtain ⟨j, dj, Aj, cj⟩ := q
        dsimp only at hI ⊢
        have hel3 := each_le (D2 owner) (fun _ => true) (r0R e owner t) e.ports j
        have hel4 : (o1R e owner held t ++ each (D2 owner) (fun _ => true) (r0R e owner t) (e.ports.take j)).length ≤ (entAd e held).length + e.ports.length := by rw [List.length_append]; omega
        refine w_seq ?_
        refine w_seq ?_
        refine w_region ?_
        refine o_y (y_move rfl) rfl rfl ?_
        refine o_y (y_field fa_48_5 rfl) rfl rfl ?_
        refine o_y (y_loadr 3 ty_34 rfl rfl rfl) rfl rfl ?_
        refine o_y (y_lenl Try.underlying34 rfl) rfl rfl ?_
        refine o_y (y_lss rfl rfl) rfl rfl ?_
        refine wl_splitp (t := 71) rfl (fun h13_4 => ?_) (fun h13_4 => ?_)
        · skip
          refine o_y (y_move rfl) rfl rfl ?_
          refine wl_gyes rfl rfl ?_
          refine o_y (y_move rfl) rfl rfl ?_
          refine wl_gyes rfl rfl ?_
          refine o_y (y_eql rfl rfl) rfl rfl ?_
          refine wl_splitp (t := 74) rfl (fun h13_7 => ?_) (fun h13_7 => ?_)
          · skip
            refine o_y (y_pick_t rfl rfl) rfl rfl ?_
            refine wl_nil ?_
            refine e_seq ?_
            refine w_cond_t rfl ?_
            refine w_skip ?_
            refine e_seq ?_
            refine w_seq ?_
            refine w_block ?_
            refine w_seq ?_
            refine w_region ?_
            refine o_y (y_move rfl) rfl rfl ?_
            refine o_y (y_field fa_48_5 rfl) rfl rfl ?_
            refine o_y (y_loadr 3 ty_34 rfl rfl rfl) rfl rfl ?_
            refine o_y (y_move rfl) rfl rfl ?_
            refine o_y (y_ixm  Try.underlying34 ty_3 rfl rfl (rs_S 1 rfl) rfl (by omega)) rfl rfl ?_
            refine o_y (y_ldm0 enc_i (0 : Int) ty_3 rfl (rs_S 1 rfl) (by omega) rfl rfl) rfl rfl ?_
            refine o_y (y_convii Try.underlying3 Try.underlying46 rfl) rfl rfl ?_
            refine o_y (y_build rfl (bu_55_0_1_2 _ _ _)) rfl rfl ?_
            refine o_y (y_build rfl (bu_58_1_3 _ _ _ _ _ _)) rfl rfl ?_
            refine o_y (y_field fa_60_4 rfl) rfl rfl ?_
            refine o_store ty_58 rfl rfl rfl (.s (.z)) rfl rfl rfl rfl ?_
            refine wl_nil ?_
            refine e_seq ?_
            refine w_region ?_
            refine o_y (y_move rfl) rfl rfl ?_
            refine o_y (y_loadrs 1 ty_60 rfl rfl rfl rfl) rfl rfl ?_
            refine o_bsl (vs := [_]) ([{ r0R e owner t with dt := D2 owner (e.ports.getD j 0) }] : List (Rc)) enc_rc Try.underlying50 ty_60 rfl rfl rfl rfl rfl rfl (fun As10 => ?_)
            refine o_appm (enc := rcC) (sz := 16) [{ r0R e owner t with dt := D2 owner (e.ports.getD j 0) }] Try.underlying50 ty_60 rfl rfl rfl (fun A c => (.s (.z))) (src_L 0 Try.underlying50 rfl) (by simp only [List.length_cons, List.length_nil, Nat.zero_add]; omega) (by simp only [List.length_cons, List.length_nil, Nat.zero_add]; omega) rfl (fun A10 c10 => ?_)
            refine o_y (y_assign rfl) rfl rfl ?_
            refine wl_nil ?_
            refine e_blk ?_
            refine e_seq ?_
            refine w_region ?_
            refine o_y (y_move rfl) rfl rfl ?_
            refine o_y (y_addi rfl rfl (by omega) (by omega)) rfl rfl ?_
            refine o_y (y_assign rfl) rfl rfl ?_
            refine wl_nil ?_
            have hes2 := each_yes (D := D2 owner) (B := fun _ => true) (r := r0R e owner t) (l := e.ports) (d := (0 : Int)) (k := j) (by omega) rfl
            have hes : (o1R e owner held t ++ each (D2 owner) (fun _ => true) (r0R e owner t) (e.ports.take (j + 1))) = (o1R e owner held t ++ each (D2 owner) (fun _ => true) (r0R e owner t) (e.ports.take j)) ++ [{ r0R e owner t with dt := D2 owner (e.ports.getD j 0) }] := by rw [hes2, List.append_assoc]
            refine e_back ((j + 1, D2 owner (e.ports.getD j 0), A10, c10)) ?_ ?_ ⟨rfl, lk rfl (by rw [hes]), trivial⟩ (by repeat (first | exact trivial | refine ⟨rfl, ?_⟩)) (fun w h => by show Hp _ _ (Ch.ls _ _ _ _ _ (o1R e owner held t ++ each (D2 owner) (fun _ => true) (r0R e owner t) (e.ports.take (j + 1))) :: _) _ _; rw [hes]; exact h.weak (.cons _ (List.Sublist.refl _)) (fun s hs => hs))
            · exact ⟨by show j + 1 ≤ _; omega, .inr (by omega)⟩
            · show e.ports.length - (j + 1) < e.ports.length - j
              omega
          · skip
            refine o_y (y_pick_t rfl rfl) rfl rfl ?_
            refine wl_nil ?_
            refine e_seq ?_
            refine w_cond_f rfl ?_
            refine w_exit ?_
            refine e_seq_exit ?_
            refine e_loop_exit ?_
            refine e_blk_hit ?_
            refine e_seq ?_
            refine w_seq ?_
            refine w_seq ?_
            refine w_region ?_
            refine o_y (y_move rfl) rfl rfl ?_
            refine o_y (y_eql rfl rfl) rfl rfl ?_
            refine wl_splitp (t := 93) rfl (fun h17_1 => ?_) (fun h17_1 => ?_)
            · skip
              refine o_y (y_move rfl) rfl rfl ?_
              refine wl_gyes rfl rfl ?_
              refine o_y (y_field fa_48_1 rfl) rfl rfl ?_
              refine wl_gyes rfl rfl ?_
              refine o_y (y_loadr 3 ty_3 rfl rfl rfl) rfl rfl ?_
              refine wl_gyes rfl rfl ?_
              refine o_y (y_eql rfl rfl) rfl rfl ?_
              refine wl_splitp (t := 97) rfl (fun h17_5 => ?_) (fun h17_5 => ?_)
              · skip
                refine o_y (y_pick_t rfl rfl) rfl rfl ?_
                refine wl_nil ?_
                refine e_seq ?_
                refine w_cond_t rfl ?_
                refine w_seq ?_
                refine w_region ?_
                refine o_y (y_field fa_48_4 rfl) rfl rfl ?_
                refine o_y (y_loadr 3 ty_22 rfl rfl rfl) rfl rfl ?_
                refine o_y (y_build rfl (bu_58_1 _)) rfl rfl ?_
                refine o_y (y_field fa_60_4 rfl) rfl rfl ?_
                refine o_store ty_58 rfl rfl rfl (.s (.z)) rfl rfl rfl rfl ?_
                refine wl_nil ?_
                refine e_seq ?_
                refine w_region ?_
                refine o_y (y_move rfl) rfl rfl ?_
                refine o_y (y_loadrs 1 ty_60 rfl rfl rfl rfl) rfl rfl ?_
                refine o_bsl (vs := [_]) ([{ r0R e owner t with dt := { dt0 with name := e.alias } }] : List (Rc)) enc_rc Try.underlying50 ty_60 rfl rfl rfl rfl rfl rfl (fun As12 => ?_)
                refine o_appm (enc := rcC) (sz := 16) [{ r0R e owner t with dt := { dt0 with name := e.alias } }] Try.underlying50 ty_60 rfl rfl rfl (fun A c => (.s (.z))) (src_L 0 Try.underlying50 rfl) (by simp only [List.length_cons, List.length_nil, Nat.zero_add]; omega) (by simp only [List.length_cons, List.length_nil, Nat.zero_add]; omega) rfl (fun A12 c12 => ?_)
                refine o_y (y_assign rfl) rfl rfl ?_
                refine wl_nil ?_
                refine e_seq ?_
                refine w_seq ?_
                refine w_region ?_
                refine o_y (y_move rfl) rfl rfl ?_
                refine o_y (y_assign rfl) rfl rfl ?_
                refine wl_nil ?_
                refine e_seq ?_
                refine w_ret ?_
                refine e_ret (ts := [8]) rfl rfl rfl (fun w hw => ?_)
                first
                  | (have hq : recs e owner held t = [] := recs_nil1 (by omega)
                     rw [hq]
                     exact ⟨(none, 0), rfl, hw.base, ((hw.weak (List.nil_sublist _) (fun s hs => hs)).nilsl 60 16).toNews⟩)
                  | (have hq := recs_ref (e := e) (owner := owner) (held := held) (t := t) (by omega) (by omega)
                     have hp : (if t = 33 then each (D2 owner) (fun _ => true) (r0R e owner t) e.ports else []) = each (D2 owner) (fun _ => true) (r0R e owner t) (e.ports.take j) := by
                       by_cases c : t = 33
                       · rw [if_pos c, show j = e.ports.length by omega, List.take_length]
                       · rw [if_neg c, show j = 0 by omega]; simp [each]
                     rw [hp, if_pos ⟨by omega, by omega⟩] at hq
                     rw [hq]
                     exact ⟨(A12, c12), rfl, hw.base, (hw.weak (.cons _ (.cons_cons _ (.cons _ (.cons _ (.cons _ .slnil))))) (fun s hs => hs)).toNews⟩)
                  | (trace_state; fail)
              · skip
                refine o_y (y_pick_t rfl rfl) rfl rfl ?_
                refine wl_nil ?_
                refine e_seq ?_
                refine w_cond_f rfl ?_
                refine w_skip ?_
                refine e_seq ?_
                refine w_seq ?_
                refine w_region ?_
                refine o_y (y_move rfl) rfl rfl ?_
                refine o_y (y_assign rfl) rfl rfl ?_
                refine wl_nil ?_
                refine e_seq ?_
                refine w_ret ?_
                refine e_ret (ts := [8]) rfl rfl rfl (fun w hw => ?_)
                first
                  | (have hq : recs e owner held t = [] := recs_nil1 (by omega)
                     rw [hq]
                     exact ⟨(none, 0), rfl, hw.base, ((hw.weak (List.nil_sublist _) (fun s hs => hs)).nilsl 60 16).toNews⟩)
                  | (have hq := recs_ref (e := e) (owner := owner) (held := held) (t := t) (by omega) (by omega)
                     have hp : (if t = 33 then each (D2 owner) (fun _ => true) (r0R e owner t) e.ports else []) = each (D2 owner) (fun _ => true) (r0R e owner t) (e.ports.take j) := by
                       by_cases c : t = 33
                       · rw [if_pos c, show j = e.ports.length by omega, List.take_length]
                       · rw [if_neg c, show j = 0 by omega]; simp [each]
                     rw [hp, if_neg (by omega)] at hq
                     rw [List.append_nil] at hq
                     rw [hq]
                     exact ⟨(Aj, cj), rfl, hw.base, (hw.weak (.cons_cons _ (.cons _ (.cons _ (.cons _ .slnil)))) (fun s hs => hs)).toNews⟩)
                  | (trace_state; fail)
            · skip
              refine o_y (y_move rfl) rfl rfl ?_
              refine wl_gno rfl rfl rfl rfl ?_
              refine wl_gno rfl rfl rfl rfl ?_
              refine wl_gno rfl rfl rfl rfl ?_
              refine o_y (y_pick_f rfl rfl) rfl rfl ?_
              refine wl_nil ?_
              refine e_seq ?_
              refine w_cond_f rfl ?_
              refine w_skip ?_
              refine e_seq ?_
              refine w_seq ?_
              refine w_region ?_
              refine o_y (y_move rfl) rfl rfl ?_
              refine o_y (y_assign rfl) rfl rfl ?_
              refine wl_nil ?_
              refine e_seq ?_
              refine w_ret ?_
              refine e_ret (ts := [8]) rfl rfl rfl (fun w hw => ?_)
              first
                | (have hq : recs e owner held t = [] := recs_nil1 (by omega)
                   rw [hq]
                   exact ⟨(none, 0), rfl, hw.base, ((hw.weak (List.nil_sublist _) (fun s hs => hs)).nilsl 60 16).toNews⟩)
                | (have hq := recs_ref (e := e) (owner := owner) (held := held) (t := t) (by omega) (by omega)
                   have hp : (if t = 33 then each (D2 owner) (fun _ => true) (r0R e owner t) e.ports else []) = each (D2 owner) (fun _ => true) (r0R e owner t) (e.ports.take j) := by
                     by_cases c : t = 33
                     · rw [if_pos c, show j = e.ports.length by omega, List.take_length]
                     · rw [if_neg c, show j = 0 by omega]; simp [each]
                   rw [hp, if_neg (by omega)] at hq
                   rw [List.append_nil] at hq
                   rw [hq]
                   exact ⟨(Aj, cj), rfl, hw.base, (hw.weak (.cons_cons _ (.cons _ (.cons _ (.cons _ .slnil)))) (fun s hs => hs)).toNews⟩)
                | (trace_state; fail)
        · skip
          refine o_y (y_move rfl) rfl rfl ?_
          refine wl_gno rfl rfl rfl rfl ?_
          refine wl_gno rfl rfl rfl rfl ?_
          refine o_y (y_pick_f rfl rfl) rfl rfl ?_
          refine wl_nil ?_
          refine e_seq ?_
          refine w_cond_f rfl ?_
          refine w_exit ?_
          refine e_seq_exit ?_
          refine e_loop_exit ?_
          refine e_blk_hit ?_
          refine e_seq ?_
          refine w_seq ?_
          refine w_seq ?_
          refine w_region ?_
          refine o_y (y_move rfl) rfl rfl ?_
          refine o_y (y_eql rfl rfl) rfl rfl ?_
          refine wl_splitp (t := 93) rfl (fun h17_1 => ?_) (fun h17_1 => ?_)
          · skip
            refine o_y (y_move rfl) rfl rfl ?_
            refine wl_gyes rfl rfl ?_
            refine o_y (y_field fa_48_1 rfl) rfl rfl ?_
            refine wl_gyes rfl rfl ?_
            refine o_y (y_loadr 3 ty_3 rfl rfl rfl) rfl rfl ?_
            refine wl_gyes rfl rfl ?_
            refine o_y (y_eql rfl rfl) rfl rfl ?_
            refine wl_splitp (t := 97) rfl (fun h17_5 => ?_) (fun h17_5 => ?_)
            · skip
              refine o_y (y_pick_t rfl rfl) rfl rfl ?_
              refine wl_nil ?_
              refine e_seq ?_
              refine w_cond_t rfl ?_
              refine w_seq ?_
              refine w_region ?_
              refine o_y (y_field fa_48_4 rfl) rfl rfl ?_
              refine o_y (y_loadr 3 ty_22 rfl rfl rfl) rfl rfl ?_
              refine o_y (y_build rfl (bu_58_1 _)) rfl rfl ?_
              refine o_y (y_field fa_60_4 rfl) rfl rfl ?_
              refine o_store ty_58 rfl rfl rfl (.s (.z)) rfl rfl rfl rfl ?_
              refine wl_nil ?_
              refine e_seq ?_
              refine w_region ?_
              refine o_y (y_move rfl) rfl rfl ?_
              refine o_y (y_loadrs 1 ty_60 rfl rfl rfl rfl) rfl rfl ?_
              refine o_bsl (vs := [_]) ([{ r0R e owner t with dt := { dt0 with name := e.alias } }] : List (Rc)) enc_rc Try.underlying50 ty_60 rfl rfl rfl rfl rfl rfl (fun As14 => ?_)
              refine o_appm (enc := rcC) (sz := 16) [{ r0R e owner t with dt := { dt0 with name := e.alias } }] Try.underlying50 ty_60 rfl rfl rfl (fun A c => (.s (.z))) (src_L 0 Try.underlying50 rfl) (by simp only [List.length_cons, List.length_nil, Nat.zero_add]; omega) (by simp only [List.length_cons, List.length_nil, Nat.zero_add]; omega) rfl (fun A14 c14 => ?_)
              refine o_y (y_assign rfl) rfl rfl ?_
              refine wl_nil ?_
              refine e_seq ?_
              refine w_seq ?_
              refine w_region ?_
              refine o_y (y_move rfl) rfl rfl ?_
              refine o_y (y_assign rfl) rfl rfl ?_
              refine wl_nil ?_
              refine e_seq ?_
              refine w_ret ?_
              refine e_ret (ts := [8]) rfl rfl rfl (fun w hw => ?_)
              first
                | (have hq : recs e owner held t = [] := recs_nil1 (by omega)
                   rw [hq]
                   exact ⟨(none, 0), rfl, hw.base, ((hw.weak (List.nil_sublist _) (fun s hs => hs)).nilsl 60 16).toNews⟩)
                | (have hq := recs_ref (e := e) (owner := owner) (held := held) (t := t) (by omega) (by omega)
                   have hp : (if t = 33 then each (D2 owner) (fun _ => true) (r0R e owner t) e.ports else []) = each (D2 owner) (fun _ => true) (r0R e owner t) (e.ports.take j) := by
                     by_cases c : t = 33
                     · rw [if_pos c, show j = e.ports.length by omega, List.take_length]
                     · rw [if_neg c, show j = 0 by omega]; simp [each]
                   rw [hp, if_pos ⟨by omega, by omega⟩] at hq
                   rw [hq]
                   exact ⟨(A14, c14), rfl, hw.base, (hw.weak (.cons _ (.cons_cons _ (.cons _ (.cons _ (.cons _ .slnil))))) (fun s hs => hs)).toNews⟩)
                | (trace_state; fail)
            · skip
              refine o_y (y_pick_t rfl rfl) rfl rfl ?_
              refine wl_nil ?_
              refine e_seq ?_
              refine w_cond_f rfl ?_
              refine w_skip ?_
              refine e_seq ?_
              refine w_seq ?_
              refine w_region ?_
              refine o_y (y_move rfl) rfl rfl ?_
              refine o_y (y_assign rfl) rfl rfl ?_
              refine wl_nil ?_
              refine e_seq ?_
              refine w_ret ?_
              refine e_ret (ts := [8]) rfl rfl rfl (fun w hw => ?_)
              first
                | (have hq : recs e owner held t = [] := recs_nil1 (by omega)
                   rw [hq]
                   exact ⟨(none, 0), rfl, hw.base, ((hw.weak (List.nil_sublist _) (fun s hs => hs)).nilsl 60 16).toNews⟩)
                | (have hq := recs_ref (e := e) (owner := owner) (held := held) (t := t) (by omega) (by omega)
                   have hp : (if t = 33 then each (D2 owner) (fun _ => true) (r0R e owner t) e.ports else []) = each (D2 owner) (fun _ => true) (r0R e owner t) (e.ports.take j) := by
                     by_cases c : t = 33
                     · rw [if_pos c, show j = e.ports.length by omega, List.take_length]
                     · rw [if_neg c, show j = 0 by omega]; simp [each]
                   rw [hp, if_neg (by omega)] at hq
                   rw [List.append_nil] at hq
                   rw [hq]
                   exact ⟨(Aj, cj), rfl, hw.base, (hw.weak (.cons_cons _ (.cons _ (.cons _ (.cons _ .slnil)))) (fun s hs => hs)).toNews⟩)
                | (trace_state; fail)
          · skip
            refine o_y (y_move rfl) rfl rfl ?_
            refine wl_gno rfl rfl rfl rfl ?_
            refine wl_gno rfl rfl rfl rfl ?_
            refine wl_gno rfl rfl rfl rfl ?_
            refine o_y (y_pick_f rfl rfl) rfl rfl ?_
            refine wl_nil ?_
            refine e_seq ?_
            refine w_cond_f rfl ?_
            refine w_skip ?_
            refine e_seq ?_
            refine w_seq ?_
            refine w_region ?_
            refine o_y (y_move rfl) rfl rfl ?_
            refine o_y (y_assign rfl) rfl rfl ?_
            refine wl_nil ?_
            refine e_seq ?_
            refine w_ret ?_
            refine e_ret (ts := [8]) rfl rfl rfl (fun w hw => ?_)
            first
              | (have hq : recs e owner held t = [] := recs_nil1 (by omega)
                 rw [hq]
                 exact ⟨(none, 0), rfl, hw.base, ((hw.weak (List.nil_sublist _) (fun s hs => hs)).nilsl 60 16).toNews⟩)
              | (have hq := recs_ref (e := e) (owner := owner) (held := held) (t := t) (by omega) (by omega)
                 have hp : (if t = 33 then each (D2 owner) (fun _ => true) (r0R e owner t) e.ports else []) = each (D2 owner) (fun _ => true) (r0R e owner t) (e.ports.take j) := by
                   by_cases c : t = 33
                   · rw [if_pos c, show j = e.ports.length by omega, List.take_length]
                   · rw [if_neg c, show j = 0 by omega]; simp [each]
                 rw [hp, if_neg (by omega)] at hq
                 rw [List.append_nil] at hq
                 rw [hq]
                 exact ⟨(Aj, cj), rfl, hw.base, (hw.weak (.cons_cons _ (.cons _ (.cons _ (.cons _ .slnil)))) (fun s hs => hs)).toNews⟩)
              | (trace_state; fail)

set_option maxRecDepth 100000 in
theorem c_EntryCalls (e : En) (A B : Option Addr) (c d : Nat) (o : En) (F G : Option Addr) (c2 d2 : Nat) (owner : Str) (H : Option Addr) (h : Nat) (held : List Ad) (hoh : ∀ a ∈ held, AdOk a) (t : Int) (hok : EnOk e) (hol : owner.length ≤ 9223372036854775807) (hhl : held.length ≤ 9223372036854775807) : RC Try.prog 11 #[.agg (enC e A B c d).toArray, .agg (enC o F G c2 d2).toArray, .string (ba owner), .slice H held.length h, .int .i64 t] [Ch.rd A 3 adC e.addrs, Ch.rd B 1 enci e.ports, Ch.rd F 3 adC o.addrs, Ch.rd G 1 enci o.ports, Ch.rd H 3 adC held] (α := Unit) (fun _ => .bool true) (fun _ => []) := by
  refine rc_of_W (args := [.agg (enC e A B c d).toArray, .agg (enC o F G c2 d2).toArray, .string (ba owner), .slice H held.length h, .int .i64 t]) 107 Try.func11 rfl rfl rfl (fun w0 => ?_)
  obtain ⟨hok1, hok2, hok3, hok4, hok5, hok6, hok7, hok8, hok9, hok10⟩ := id hok
  have hwa := hok.lo
  have hk := hok2
  have hwh : ∀ a ∈ held, 0 ≤ a.lo := fun a ha => (hoh a ha).2.2.1
  refine w_seq ?_
  refine w_region ?_
  refine o_box rfl rfl rfl (fun b1 => ?_)
  refine o_box rfl rfl rfl (fun b2 => ?_)
  refine o_y (y_assign rfl) rfl rfl ?_
  refine wl_nil ?_
  refine e_seq ?_
  refine w_seq ?_
  refine w_seq ?_
  refine w_region ?_
  refine o_callp rfl ent_29 c_lives16 rfl ?_
  refine wl_as (t := 14) (.bool true) rfl (congrArg Value.bool rfl) ?_
  refine o_y (y_not rfl) rfl rfl ?_
  refine wl_nil ?_
  refine e_seq ?_
  refine w_cond_f rfl ?_
  refine w_skip ?_
  refine e_seq ?_
  refine w_seq ?_
  refine w_seq ?_
  refine w_region ?_
  refine o_y (y_loadrs 1 ty_48 rfl rfl rfl rfl) rfl rfl ?_
  refine o_callp rfl ent_30 (c_LightEntry _ _ _ _ _) rfl ?_
  refine wl_splitb (t := 17) rfl (fun h3_1 => ?_) (fun h3_1 => ?_)
  · skip
    obtain ⟨hl1, hl2, hl3, hl4, hl5⟩ := light_le h3_1
    refine o_y (y_not rfl) rfl rfl ?_
    refine o_y (y_move rfl) rfl rfl ?_
    refine wl_gyes rfl rfl ?_
    refine o_y (y_loadrs 0 ty_48 rfl rfl rfl rfl) rfl rfl ?_
    refine wl_gyes rfl rfl ?_
    refine o_callp rfl ent_30 (c_LightEntry _ _ _ _ _) rfl ?_
    refine wl_splitb (t := 21) rfl (fun h3_5 => ?_) (fun h3_5 => ?_)
    · skip
      refine wl_gyes rfl rfl ?_
      refine o_y (y_not rfl) rfl rfl ?_
      refine o_y (y_pick_f rfl rfl) rfl rfl ?_
      refine o_y (y_move rfl) rfl rfl ?_
      refine wl_gyes rfl rfl ?_
      refine o_y (y_move rfl) rfl rfl ?_
      refine wl_gyes rfl rfl ?_
      refine o_y (y_lens Try.underlying22 rfl) rfl rfl ?_
      refine wl_gyes rfl rfl ?_
      refine o_y (y_gtr rfl rfl) rfl rfl ?_
      refine wl_splitp (t := 27) rfl (fun h3_11 => ?_) (fun h3_11 => ?_)
      · skip
        refine o_y (y_pick_f rfl rfl) rfl rfl ?_
        refine o_y (y_move rfl) rfl rfl ?_
        refine wl_gno rfl rfl rfl rfl ?_
        refine wl_gno rfl rfl rfl rfl ?_
        refine wl_gno rfl rfl rfl rfl ?_
        refine o_y (y_pick_t rfl rfl) rfl rfl ?_
        refine wl_nil ?_
        refine e_seq ?_
        refine w_cond_t rfl ?_
        refine w_seq ?_
        refine w_region ?_
        refine o_y (y_assign rfl) rfl rfl ?_
        refine wl_nil ?_
        refine e_seq ?_
        refine w_ret ?_
        refine e_seq_ret ?_
        refine e_ret (ts := [10]) rfl rfl rfl (fun w hw => ?_)
        exact ⟨(), rfl, hw.base, (hw.weak (List.nil_sublist _) (fun s hs => hs)).toNews⟩
      · skip
        refine o_y (y_pick_f rfl rfl) rfl rfl ?_
        refine o_y (y_move rfl) rfl rfl ?_
        refine wl_gyes rfl rfl ?_
        refine o_y (y_move rfl) rfl rfl ?_
        refine wl_gyes rfl rfl ?_
        refine o_y (y_lenl Try.underlying45 rfl) rfl rfl ?_
        refine wl_gyes rfl rfl ?_
        refine o_y (y_gtr rfl rfl) rfl rfl ?_
        refine wl_splitp (t := 32) rfl (fun h3_16 => ?_) (fun h3_16 => ?_)
        · skip
          refine o_y (y_pick_f rfl rfl) rfl rfl ?_
          refine wl_nil ?_
          refine e_seq ?_
          refine w_cond_t rfl ?_
          refine w_seq ?_
          refine w_region ?_
          refine o_y (y_assign rfl) rfl rfl ?_
          refine wl_nil ?_
          refine e_seq ?_
          refine w_ret ?_
          refine e_seq_ret ?_
          refine e_ret (ts := [10]) rfl rfl rfl (fun w hw => ?_)
          exact ⟨(), rfl, hw.base, (hw.weak (List.nil_sublist _) (fun s hs => hs)).toNews⟩
        · skip
          refine o_y (y_pick_f rfl rfl) rfl rfl ?_
          refine wl_nil ?_
          refine e_seq ?_
          refine w_cond_f rfl ?_
          refine w_skip ?_
          refine e_seq ?_
          refine w_seq ?_
          have hqt := recs_len e owner held t
          have hqe := entAd_le e held
          refine w_draw 12 rfl mixed ?_
          refine a_take (i := 0) rfl wanted_none (y_loadrs 1 ty_48 rfl rfl rfl rfl) (fun w h => h) (fun w h => h) rfl (pk_seq pk_fn) (by kernel_rfl) rfl ?_
          refine a_take (i := 1) rfl wanted_none (y_move rfl) (fun w h => h) (fun w h => h) rfl (pk_seq pk_fn) (by kernel_rfl) rfl ?_
          refine a_take (i := 2) rfl wanted_none (y_move rfl) (fun w h => h) (fun w h => h) rfl (pk_seq pk_fn) (by kernel_rfl) rfl ?_
          refine a_take (i := 3) rfl wanted_none (y_move rfl) (fun w h => h) (fun w h => h) rfl (pk_seq pk_fn) (by kernel_rfl) rfl ?_
          refine a_take (i := 5) rfl wanted_none (y_loadrs 1 ty_48 rfl rfl rfl rfl) (fun w h => h) (fun w h => h) rfl (pk_seq pk_fn) (by kernel_rfl) rfl ?_
          refine a_take (i := 6) rfl wanted_none (y_move rfl) (fun w h => h) (fun w h => h) rfl (pk_seq pk_fn) (by kernel_rfl) rfl ?_
          refine a_take (i := 7) rfl wanted_none (y_move rfl) (fun w h => h) (fun w h => h) rfl (pk_seq pk_fn) (by kernel_rfl) rfl ?_
          refine a_take (i := 8) rfl wanted_none (y_move rfl) (fun w h => h) (fun w h => h) rfl (pk_seq pk_fn) (by kernel_rfl) rfl ?_
          refine a_one (i := 4) rfl rfl rfl (tame_call rfl ent_31) (by kernel_rfl) rfl ?_
          refine o_callr1 rfl ent_31 rfl (c_entry_Records _ _ _ _ _ _ _ _ _ _ hwh (by omega) hwa (by omega) (by omega) hk) (fun w hw => (rd_cons (rd_S 0 rfl hw) (rd_cons (rd_S 1 rfl hw) (rd_cons (rd_S 4 rfl hw) rd_nil)))) (fun ⟨A2, c2⟩ => ?_)
          refine wl_nil ?_
          refine e_one (fun w h => h.weak (.cons _ (List.Sublist.refl _)) (fun s hs => hs)) ?_
          refine a_one (i := 9) rfl rfl rfl (tame_call rfl ent_43) (by kernel_rfl) rfl ?_
          refine o_callr1 rfl ent_43 rfl (c_ref16_Records _ _ _ _ _ _ _ _ _ _ hwh (by omega) hwa (by omega) (by omega) hk) (fun w hw => (rd_cons (rd_S 0 rfl hw) (rd_cons (rd_S 1 rfl hw) (rd_cons (rd_S 4 rfl hw) rd_nil)))) (fun ⟨A3, c3⟩ => ?_)
          refine wl_nil ?_
          refine e_one (fun w h => h.weak (.cons _ (.cons _ (List.Sublist.refl _))) (fun s hs => hs)) ?_
          refine a_take (i := 10) rfl wanted_none (y_assign rfl) (fun w h => h.weak (.cons _ (.cons _ (List.Sublist.refl _))) (fun s hs => hs)) (fun w h => h) rfl (pk_seq pk_fn) (by kernel_rfl) rfl ?_
          refine a_take (i := 11) rfl wanted_none (y_assign rfl) (fun w h => h.weak (.cons _ (.cons _ (List.Sublist.refl _))) (fun s hs => hs)) (fun w h => h) rfl (pk_seq pk_fn) (by kernel_rfl) rfl ?_
          refine a_done (by kernel_rfl) ?_
          refine e_seq ?_
          refine w_seq ?_
          refine w_seq ?_
          refine w_region ?_
          refine o_y (y_move rfl) rfl rfl ?_
          refine o_y (y_lenl Try.underlying50 rfl) rfl rfl ?_
          refine o_y (y_move rfl) rfl rfl ?_
          refine o_y (y_lenl Try.underlying50 rfl) rfl rfl ?_
          refine o_y (y_neq rfl rfl) rfl rfl ?_
          refine wl_af (t := 48) rfl (fun h9 => h9 rfl) ?_
          refine wl_nil ?_
          refine e_seq ?_
          refine w_cond_f rfl ?_
          refine w_skip ?_
          refine e_seq ?_
          refine w_seq ?_
          refine w_seq ?_
          refine w_region ?_
          refine o_y (y_assign rfl) rfl rfl ?_
          refine wl_nil ?_
          refine e_seq ?_
          refine w_block ?_
          refine w_loop0 (σ := Nat) [10, 13, 49, 50, 51, 52, 53, 54, 55, 56, 57, 58, 59, 60, 61, 62, 63, 64] (fun k => k ≤ (recs e owner held t).length) (fun k => (recs e owner held t).length - k) (fun k => [(13, .int .i64 k)]) (0) ?_ ⟨rfl, trivial⟩ (fun k hI => ?_)
          · exact Nat.zero_le _
          refine w_seq ?_
          refine w_seq ?_
          refine w_region ?_
          refine o_y (y_move rfl) rfl rfl ?_
          refine o_y (y_move rfl) rfl rfl ?_
          refine o_y (y_lenl Try.underlying50 rfl) rfl rfl ?_
          refine o_y (y_lss rfl rfl) rfl rfl ?_
          refine wl_splitp (t := 52) rfl (fun h9_3 => ?_) (fun h9_3 => ?_)
          · skip
            refine wl_nil ?_
            refine e_seq ?_
            refine w_cond_t rfl ?_
            refine w_skip ?_
            refine e_seq ?_
            refine w_seq ?_
            refine w_block ?_
            refine w_seq ?_
            refine w_draw 10 rfl mixed ?_
            refine a_take (i := 0) rfl wanted_none (y_move rfl) (fun w h => h) (fun w h => h) rfl (pk_seq (pk_blk (pk_seq (pk_loop (pk_blk (pk_seq pk_fn)))))) (by kernel_rfl) rfl ?_
            refine a_take (i := 1) rfl wanted_none (y_move rfl) (fun w h => h) (fun w h => h) rfl (pk_seq (pk_blk (pk_seq (pk_loop (pk_blk (pk_seq pk_fn)))))) (by kernel_rfl) rfl ?_
            refine a_take (i := 2) rfl wanted_none (y_ixm  Try.underlying50 ty_60 rfl rfl (rs_L 1 rfl) rfl (by omega)) (fun w h => h) (fun w h => h) rfl (pk_seq (pk_blk (pk_seq (pk_loop (pk_blk (pk_seq pk_fn)))))) (by kernel_rfl) rfl ?_
            refine a_take (i := 3) rfl wanted_none (y_ldsm0 enc_rc rc0 ty_60 rfl (rs_L 1 rfl) (by omega) rfl rfl rfl) (fun w h => h) (fun w h => h) rfl (pk_seq (pk_blk (pk_seq (pk_loop (pk_blk (pk_seq pk_fn)))))) (by kernel_rfl) rfl ?_
            refine a_take (i := 4) rfl wanted_none (y_move rfl) (fun w h => h) (fun w h => h) rfl (pk_seq (pk_blk (pk_seq (pk_loop (pk_blk (pk_seq pk_fn)))))) (by kernel_rfl) rfl ?_
            refine a_take (i := 5) rfl wanted_none (y_move rfl) (fun w h => h) (fun w h => h) rfl (pk_seq (pk_blk (pk_seq (pk_loop (pk_blk (pk_seq pk_fn)))))) (by kernel_rfl) rfl ?_
            refine a_take (i := 6) rfl wanted_none (y_ixm  Try.underlying50 ty_60 rfl rfl (rs_L 0 rfl) rfl (by omega)) (fun w h => h) (fun w h => h) rfl (pk_seq (pk_blk (pk_seq (pk_loop (pk_blk (pk_seq pk_fn)))))) (by kernel_rfl) rfl ?_
            refine a_take (i := 7) rfl wanted_none (y_ldsm0 enc_rc rc0 ty_60 rfl (rs_L 0 rfl) (by omega) rfl rfl rfl) (fun w h => h) (fun w h => h) rfl (pk_seq (pk_blk (pk_seq (pk_loop (pk_blk (pk_seq pk_fn)))))) (by kernel_rfl) rfl ?_
            refine a_one (i := 8) rfl rfl rfl (tame_call rfl ent_33) (by kernel_rfl) rfl ?_
            refine o_callp rfl ent_33 (c_ref10_Same _ _) rfl ?_
            refine wl_nil ?_
            refine e_one (fun w h => h) ?_
            refine wa_as (t := 63) (.bool true) rfl (congrArg Value.bool (decide_eq_true rfl)) ?_
            refine a_take (i := 9) rfl wanted_none (y_not rfl) (fun w h => h) (fun w h => h) rfl (pk_seq (pk_blk (pk_seq (pk_loop (pk_blk (pk_seq pk_fn)))))) (by kernel_rfl) rfl ?_
            refine a_done (by kernel_rfl) ?_
            refine e_seq ?_
            refine w_cond_f rfl ?_
            refine w_skip ?_
            refine e_blk ?_
            refine e_seq ?_
            refine w_region ?_
            refine o_y (y_move rfl) rfl rfl ?_
            refine o_y (y_addi rfl rfl (by omega) (by omega)) rfl rfl ?_
            refine o_y (y_assign rfl) rfl rfl ?_
            refine wl_nil ?_
            refine e_back (k + 1) ?_ ?_ ⟨rfl, trivial⟩ (by repeat (first | exact trivial | refine ⟨rfl, ?_⟩)) (fun w h => h)
            · omega
            · omega
          · skip
            refine wl_nil ?_
            refine e_seq ?_
            refine w_cond_f rfl ?_
            refine w_exit ?_
            refine e_seq_exit ?_
            refine e_loop_exit ?_
            refine e_blk_hit ?_
            refine e_seq ?_
            refine w_seq ?_
            refine w_draw 43 rfl mixed ?_
            refine a_take (i := 0) rfl wanted_none (y_loadrs 3 ty_48 rfl rfl rfl rfl) (fun w h => h) (fun w h => h) rfl (pk_seq pk_fn) (by kernel_rfl) rfl ?_
            refine a_take (i := 2) rfl wanted_none (y_loadrs 3 ty_48 rfl rfl rfl rfl) (fun w h => h) (fun w h => h) rfl (pk_seq pk_fn) (by kernel_rfl) rfl ?_
            refine a_one (i := 1) rfl rfl rfl (tame_call rfl ent_34) (by kernel_rfl) rfl ?_
            refine o_callq rfl ent_34 rfl (c_entry_Check _ _ _ _ _ hwa (by omega) (by omega) hk) (fun w hw => (rd_cons (rd_S 0 rfl hw) (rd_cons (rd_S 1 rfl hw) rd_nil))) ?_
            refine wl_nil ?_
            refine e_one (fun w h => h) ?_
            refine a_one (i := 3) rfl rfl rfl (tame_call rfl ent_44) (by kernel_rfl) rfl ?_
            refine o_callq rfl ent_44 rfl (c_ref16_Check _ _ _ _ _ hwa (by omega) (by omega) hk) (fun w hw => (rd_cons (rd_S 0 rfl hw) (rd_cons (rd_S 1 rfl hw) rd_nil))) ?_
            refine wl_nil ?_
            refine e_one (fun w h => h) ?_
            refine a_take (i := 4) rfl wanted_none (y_eql rfl rfl) (fun w h => h) (fun w h => h) rfl (pk_seq pk_fn) (by kernel_rfl) rfl ?_
            refine wa_at (t := 69) rfl rfl ?_
            refine a_take (i := 5) rfl wanted_none (y_move rfl) (fun w h => h) (fun w h => h) rfl (pk_seq pk_fn) (by kernel_rfl) rfl ?_
            refine a_take (i := 6) rfl (wanted_yes rfl rfl) (y_loadrs 3 ty_48 rfl rfl rfl rfl) (fun w h => h) (fun w h => h) rfl (pk_seq pk_fn) (by kernel_rfl) rfl ?_
            refine a_take (i := 8) rfl (wanted_yes rfl rfl) (y_loadrs 3 ty_48 rfl rfl rfl rfl) (fun w h => h) (fun w h => h) rfl (pk_seq pk_fn) (by kernel_rfl) rfl ?_
            refine a_one (i := 7) rfl rfl rfl (tame_call rfl ent_38) (by kernel_rfl) rfl ?_
            refine wl_gyes rfl rfl ?_
            refine o_callp rfl ent_38 (c_entry_Key _ _ _ _ _ (by omega)) rfl ?_
            refine wl_nil ?_
            refine e_one (fun w h => h) ?_
            refine a_one (i := 9) rfl rfl rfl (tame_call rfl ent_45) (by kernel_rfl) rfl ?_
            refine wl_gyes rfl rfl ?_
            refine o_callp rfl ent_45 (c_ref16_Key _ _ _ _ _ (by omega)) rfl ?_
            refine wl_nil ?_
            refine e_one (fun w h => h) ?_
            refine a_take (i := 10) rfl (wanted_yes rfl rfl) (y_eqls rfl rfl) (fun w h => h) (fun w h => h) rfl (pk_seq pk_fn) (by kernel_rfl) rfl ?_
            refine wa_at (t := 75) rfl rfl ?_
            refine a_take (i := 11) rfl wanted_none (y_pick_t rfl rfl) (fun w h => h) (fun w h => h) rfl (pk_seq pk_fn) (by kernel_rfl) rfl ?_
            refine a_take (i := 12) rfl wanted_none (y_move rfl) (fun w h => h) (fun w h => h) rfl (pk_seq pk_fn) (by kernel_rfl) rfl ?_
            refine a_take (i := 13) rfl (wanted_yes rfl rfl) (y_loadrs 3 ty_48 rfl rfl rfl rfl) (fun w h => h) (fun w h => h) rfl (pk_seq pk_fn) (by kernel_rfl) rfl ?_
            refine a_take (i := 14) rfl (wanted_yes rfl rfl) (y_move rfl) (fun w h => h) (fun w h => h) rfl (pk_seq pk_fn) (by kernel_rfl) rfl ?_
            refine a_take (i := 16) rfl (wanted_yes rfl rfl) (y_loadrs 3 ty_48 rfl rfl rfl rfl) (fun w h => h) (fun w h => h) rfl (pk_seq pk_fn) (by kernel_rfl) rfl ?_
            refine a_take (i := 17) rfl (wanted_yes rfl rfl) (y_move rfl) (fun w h => h) (fun w h => h) rfl (pk_seq pk_fn) (by kernel_rfl) rfl ?_
            refine a_one (i := 15) rfl rfl rfl (tame_call rfl ent_36) (by kernel_rfl) rfl ?_
            refine wl_gyes rfl rfl ?_
            refine o_callr1 rfl ent_36 rfl (c_entry_Addrs _ _ _ _ _ _ _ _ hwh (by omega) hwa (by omega) (by omega) hk) (fun w hw => (rd_cons (rd_S 0 rfl hw) (rd_cons (rd_S 1 rfl hw) (rd_cons (rd_S 4 rfl hw) rd_nil)))) (fun ⟨A4, c4⟩ => ?_)
            refine wl_nil ?_
            refine e_one (fun w h => h.weak (.cons _ (List.Sublist.refl _)) (fun s hs => hs)) ?_
            refine a_one (i := 18) rfl rfl rfl (tame_call rfl ent_47) (by kernel_rfl) rfl ?_
            refine wl_gyes rfl rfl ?_
            refine o_callr1 rfl ent_47 rfl (c_ref16_Addrs _ _ _ _ _ _ _ _ hwh (by omega) hwa (by omega) (by omega) hk) (fun w hw => (rd_cons (rd_S 0 rfl hw) (rd_cons (rd_S 1 rfl hw) (rd_cons (rd_S 4 rfl hw) rd_nil)))) (fun ⟨A5, c5⟩ => ?_)
            refine wl_nil ?_
            refine e_one (fun w h => h.weak (.cons _ (.cons _ (List.Sublist.refl _))) (fun s hs => hs)) ?_
            refine a_one (i := 19) rfl rfl rfl (tame_call rfl ent_46) (by kernel_rfl) rfl ?_
            refine wl_gyes rfl rfl ?_
            refine o_callq rfl ent_46 rfl (c_kit_Same_ad _ _ _ _ _ _ (by omega)) (fun w hw => (rd_cons (rd_Ls 1 rfl hw) (rd_cons (rd_Ls 0 rfl hw) rd_nil))) ?_
            refine wl_nil ?_
            refine e_one (fun w h => h.weak (.cons _ (.cons _ (List.Sublist.refl _))) (fun s hs => hs)) ?_
            refine wa_as (t := 84) (.bool true) rfl (congrArg Value.bool (decide_eq_true rfl)) ?_
            refine a_take (i := 20) rfl wanted_none (y_pick_t rfl rfl) (fun w h => h.weak (.cons _ (.cons _ (List.Sublist.refl _))) (fun s hs => hs)) (fun w h => h) rfl (pk_seq pk_fn) (by kernel_rfl) rfl ?_
            refine a_take (i := 21) rfl wanted_none (y_move rfl) (fun w h => h.weak (.cons _ (.cons _ (List.Sublist.refl _))) (fun s hs => hs)) (fun w h => h) rfl (pk_seq pk_fn) (by kernel_rfl) rfl ?_
            refine a_take (i := 22) rfl (wanted_yes rfl rfl) (y_loadrs 3 ty_48 rfl rfl rfl rfl) (fun w h => h.weak (.cons _ (.cons _ (List.Sublist.refl _))) (fun s hs => hs)) (fun w h => h) rfl (pk_seq pk_fn) (by kernel_rfl) rfl ?_
            refine a_take (i := 23) rfl (wanted_yes rfl rfl) (y_loadrs 2 ty_48 rfl rfl rfl rfl) (fun w h => h.weak (.cons _ (.cons _ (List.Sublist.refl _))) (fun s hs => hs)) (fun w h => h) rfl (pk_seq pk_fn) (by kernel_rfl) rfl ?_
            refine a_take (i := 25) rfl (wanted_yes rfl rfl) (y_loadrs 3 ty_48 rfl rfl rfl rfl) (fun w h => h.weak (.cons _ (.cons _ (List.Sublist.refl _))) (fun s hs => hs)) (fun w h => h) rfl (pk_seq pk_fn) (by kernel_rfl) rfl ?_
            refine a_take (i := 26) rfl (wanted_yes rfl rfl) (y_loadrs 2 ty_48 rfl rfl rfl rfl) (fun w h => h.weak (.cons _ (.cons _ (List.Sublist.refl _))) (fun s hs => hs)) (fun w h => h) rfl (pk_seq pk_fn) (by kernel_rfl) rfl ?_
            refine a_one (i := 24) rfl rfl rfl (tame_call rfl ent_42) (by kernel_rfl) rfl ?_
            refine wl_gyes rfl rfl ?_
            refine o_callq rfl ent_42 rfl (c_entry_Same _ _ _ _ _ _ _ _ _ _ (by omega) (by omega)) (fun w hw => (rd_cons (rd_S 0 rfl hw) (rd_cons (rd_S 1 rfl hw) (rd_cons (rd_S 2 rfl hw) (rd_cons (rd_S 3 rfl hw) rd_nil))))) ?_
            refine wl_nil ?_
            refine e_one (fun w h => h.weak (.cons _ (.cons _ (List.Sublist.refl _))) (fun s hs => hs)) ?_
            refine a_one (i := 27) rfl rfl rfl (tame_call rfl ent_48) (by kernel_rfl) rfl ?_
            refine wl_gyes rfl rfl ?_
            refine o_callq rfl ent_48 rfl (c_ref16_Same _ _ _ _ _ _ _ _ _ _ (by omega) (by omega)) (fun w hw => (rd_cons (rd_S 0 rfl hw) (rd_cons (rd_S 1 rfl hw) (rd_cons (rd_S 2 rfl hw) (rd_cons (rd_S 3 rfl hw) rd_nil))))) ?_
            refine wl_nil ?_
            refine e_one (fun w h => h.weak (.cons _ (.cons _ (List.Sublist.refl _))) (fun s hs => hs)) ?_
            refine a_take (i := 28) rfl (wanted_yes rfl rfl) (y_eqlb Try.underlying4 rfl rfl) (fun w h => h.weak (.cons _ (.cons _ (List.Sublist.refl _))) (fun s hs => hs)) (fun w h => h) rfl (pk_seq pk_fn) (by kernel_rfl) rfl ?_
            refine wa_at (t := 93) rfl rfl ?_
            refine a_take (i := 29) rfl wanted_none (y_pick_t rfl rfl) (fun w h => h.weak (.cons _ (.cons _ (List.Sublist.refl _))) (fun s hs => hs)) (fun w h => h) rfl (pk_seq pk_fn) (by kernel_rfl) rfl ?_
            refine a_take (i := 30) rfl wanted_none (y_move rfl) (fun w h => h.weak (.cons _ (.cons _ (List.Sublist.refl _))) (fun s hs => hs)) (fun w h => h) rfl (pk_seq pk_fn) (by kernel_rfl) rfl ?_
            refine a_take (i := 31) rfl (wanted_yes rfl rfl) (y_loadrs 3 ty_48 rfl rfl rfl rfl) (fun w h => h.weak (.cons _ (.cons _ (List.Sublist.refl _))) (fun s hs => hs)) (fun w h => h) rfl (pk_seq pk_fn) (by kernel_rfl) rfl ?_
            refine a_take (i := 32) rfl (wanted_yes rfl rfl) (y_loadrs 3 ty_48 rfl rfl rfl rfl) (fun w h => h.weak (.cons _ (.cons _ (List.Sublist.refl _))) (fun s hs => hs)) (fun w h => h) rfl (pk_seq pk_fn) (by kernel_rfl) rfl ?_
            refine a_one (i := 33) rfl rfl rfl (tame_call rfl ent_49) (by kernel_rfl) rfl ?_
            refine wl_gyes rfl rfl ?_
            refine o_callr2 rfl ent_49 rfl (c_OwnEntry _ _ _ _ _ (by omega) (by omega)) (fun w hw => (rd_cons (rd_S 0 rfl hw) (rd_cons (rd_S 1 rfl hw) rd_nil))) (fun ⟨A6, c6, B6, d6⟩ => ?_)
            refine wl_nil ?_
            refine e_one (fun w h => h.weak (.cons _ (.cons _ (.cons _ (.cons _ (List.Sublist.refl _))))) (fun s hs => hs)) ?_
            refine a_one (i := 34) rfl rfl rfl (tame_call rfl ent_42) (by kernel_rfl) rfl ?_
            refine wl_gyes rfl rfl ?_
            refine o_callq rfl ent_42 rfl (c_entry_Same _ _ _ _ _ _ _ _ _ _ (by omega) (by omega)) (fun w hw => (rd_cons (rd_S 0 rfl hw) (rd_cons (rd_S 1 rfl hw) (rd_cons (rd_Ls 1 rfl hw) (rd_cons (rd_Ls 0 rfl hw) rd_nil))))) ?_
            refine wl_nil ?_
            refine e_one (fun w h => h.weak (.cons _ (.cons _ (.cons _ (.cons _ (List.Sublist.refl _))))) (fun s hs => hs)) ?_
            refine wa_as (t := 99) (.bool true) rfl (congrArg Value.bool (decide_eq_true rfl)) ?_
            refine a_take (i := 35) rfl wanted_none (y_pick_t rfl rfl) (fun w h => h.weak (.cons _ (.cons _ (.cons _ (.cons _ (List.Sublist.refl _))))) (fun s hs => hs)) (fun w h => h) rfl (pk_seq pk_fn) (by kernel_rfl) rfl ?_
            refine a_take (i := 36) rfl wanted_none (y_move rfl) (fun w h => h.weak (.cons _ (.cons _ (.cons _ (.cons _ (List.Sublist.refl _))))) (fun s hs => hs)) (fun w h => h) rfl (pk_seq pk_fn) (by kernel_rfl) rfl ?_
            refine a_take (i := 37) rfl (wanted_yes rfl rfl) (y_loadrs 3 ty_48 rfl rfl rfl rfl) (fun w h => h.weak (.cons _ (.cons _ (.cons _ (.cons _ (List.Sublist.refl _))))) (fun s hs => hs)) (fun w h => h) rfl (pk_seq pk_fn) (by kernel_rfl) rfl ?_
            refine a_take (i := 39) rfl (wanted_yes rfl rfl) (y_loadrs 3 ty_48 rfl rfl rfl rfl) (fun w h => h.weak (.cons _ (.cons _ (.cons _ (.cons _ (List.Sublist.refl _))))) (fun s hs => hs)) (fun w h => h) rfl (pk_seq pk_fn) (by kernel_rfl) rfl ?_
            refine a_one (i := 38) rfl rfl rfl (tame_call rfl ent_41) (by kernel_rfl) rfl ?_
            refine wl_gyes rfl rfl ?_
            refine o_callr2 rfl ent_41 rfl (c_entry_Copy _ _ _ _ _ (by omega) (by omega)) (fun w hw => (rd_cons (rd_S 0 rfl hw) (rd_cons (rd_S 1 rfl hw) rd_nil))) (fun ⟨A7, c7, B7, d7⟩ => ?_)
            refine wl_nil ?_
            refine e_one (fun w h => h.weak (.cons _ (.cons _ (.cons _ (.cons _ (.cons _ (.cons _ (List.Sublist.refl _))))))) (fun s hs => hs)) ?_
            refine a_one (i := 40) rfl rfl rfl (tame_call rfl ent_48) (by kernel_rfl) rfl ?_
            refine wl_gyes rfl rfl ?_
            refine o_callq rfl ent_48 rfl (c_ref16_Same _ _ _ _ _ _ _ _ _ _ (by omega) (by omega)) (fun w hw => (rd_cons (rd_Ls 1 rfl hw) (rd_cons (rd_Ls 0 rfl hw) (rd_cons (rd_S 0 rfl hw) (rd_cons (rd_S 1 rfl hw) rd_nil))))) ?_
            refine wl_nil ?_
            refine e_one (fun w h => h.weak (.cons _ (.cons _ (.cons _ (.cons _ (.cons _ (.cons _ (List.Sublist.refl _))))))) (fun s hs => hs)) ?_
            refine wa_as (t := 105) (.bool true) rfl (congrArg Value.bool (decide_eq_true rfl)) ?_
            refine a_take (i := 41) rfl wanted_none (y_pick_t rfl rfl) (fun w h => h.weak (.cons _ (.cons _ (.cons _ (.cons _ (.cons _ (.cons _ (List.Sublist.refl _))))))) (fun s hs => hs)) (fun w h => h) rfl (pk_seq pk_fn) (by kernel_rfl) rfl ?_
            refine a_take (i := 42) rfl wanted_none (y_assign rfl) (fun w h => h.weak (.cons _ (.cons _ (.cons _ (.cons _ (.cons _ (.cons _ (List.Sublist.refl _))))))) (fun s hs => hs)) (fun w h => h) rfl (pk_seq pk_fn) (by kernel_rfl) rfl ?_
            refine a_done (by kernel_rfl) ?_
            refine e_seq ?_
            refine w_ret ?_
            refine e_ret (ts := [10]) rfl rfl rfl (fun w hw => ?_)
            exact ⟨(), rfl, hw.base, (hw.weak (List.nil_sublist _) (fun s hs => hs)).toNews⟩
    · skip
      refine wl_gyes rfl rfl ?_
      refine o_y (y_not rfl) rfl rfl ?_
      refine o_y (y_pick_f rfl rfl) rfl rfl ?_
      refine o_y (y_move rfl) rfl rfl ?_
      refine wl_gno rfl rfl rfl rfl ?_
      refine wl_gno rfl rfl rfl rfl ?_
      refine wl_gno rfl rfl rfl rfl ?_
      refine o_y (y_pick_t rfl rfl) rfl rfl ?_
      refine o_y (y_move rfl) rfl rfl ?_
      refine wl_gno rfl rfl rfl rfl ?_
      refine wl_gno rfl rfl rfl rfl ?_
      refine wl_gno rfl rfl rfl rfl ?_
      refine o_y (y_pick_t rfl rfl) rfl rfl ?_
      refine wl_nil ?_
      refine e_seq ?_
      refine w_cond_t rfl ?_
      refine w_seq ?_
      refine w_region ?_
      refine o_y (y_assign rfl) rfl rfl ?_
      refine wl_nil ?_
      refine e_seq ?_
      refine w_ret ?_
      refine e_seq_ret ?_
      refine e_ret (ts := [10]) rfl rfl rfl (fun w hw => ?_)
      exact ⟨(), rfl, hw.base, (hw.weak (List.nil_sublist _) (fun s hs => hs)).toNews⟩
  · skip
    refine o_y (y_not rfl) rfl rfl ?_
    refine o_y (y_move rfl) rfl rfl ?_
    refine wl_gno rfl rfl rfl rfl ?_
    refine wl_gno rfl rfl rfl rfl ?_
    refine wl_gno rfl rfl rfl rfl ?_
    refine o_y (y_pick_t rfl rfl) rfl rfl ?_
    refine o_y (y_move rfl) rfl rfl ?_
    refine wl_gno rfl rfl rfl rfl ?_
    refine wl_gno rfl rfl rfl rfl ?_
    refine wl_gno rfl rfl rfl rfl ?_
    refine o_y (y_pick_t rfl rfl) rfl rfl ?_
    refine o_y (y_move rfl) rfl rfl ?_
    refine wl_gno rfl rfl rfl rfl ?_
    refine wl_gno rfl rfl rfl rfl ?_
    refine wl_gno rfl rfl rfl rfl ?_
    refine o_y (y_pick_t rfl rfl) rfl rfl ?_
    refine wl_nil ?_
    refine e_seq ?_
    refine w_cond_t rfl ?_
    refine w_seq ?_
    refine w_region ?_
    refine o_y (y_assign rfl) rfl rfl ?_
    refine wl_nil ?_
    refine e_seq ?_
    refine w_ret ?_
    refine e_seq_ret ?_
    refine e_ret (ts := [10]) rfl rfl rfl (fun w hw => ?_)
    exact ⟨(), rfl, hw.base, (hw.weak (List.nil_sublist _) (fun s hs => hs)).toNews⟩
end Go.Proofs.Ytahpppncjbgpaaa
