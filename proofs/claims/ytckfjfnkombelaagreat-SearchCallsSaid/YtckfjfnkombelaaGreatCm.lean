/- the reference of entries; the law of calls -/
import Derived.Test.YtckfjfnkombelaaGreatCl
namespace Go.Proofs.YtckfjfnkombelaaGreat
open Go.RowKit Go.Shelf
set_option linter.unusedVariables false
set_option linter.unusedSimpArgs false

theorem ent_101 : Enters Tryz.prog 101 := enters_of Tryz.func101 (by kernel_rfl) rfl
theorem ent_104 : Enters Tryz.prog 104 := enters_of Tryz.func104 (by kernel_rfl) rfl

theorem c_ref16_Key (e : En) (A B : Option Addr) (c d : Nat) (hn : e.host.length ≤ 1000000000) : Pure Tryz.prog 118 #[.agg (enC e A B c d).toArray] (.string (ba (foldN e.host))) := by
  intro w0
  refine calls_of_W (ok0 := no) (S := []) (args := [.agg (enC e A B c d).toArray]) 6 Tryz.func118 rfl rfl rfl (by simp) (by simp) ?_
  refine w_seq ?_
  refine w_region ?_
  refine o_box rfl rfl rfl (fun b1 => ?_)
  refine o_y (y_assign rfl) rfl rfl ?_
  refine wl_nil ?_
  refine e_seq ?_
  refine w_seq ?_
  refine w_region ?_
  refine o_y (y_field fa_34_0 rfl) rfl rfl ?_
  refine o_y (y_loadr 0 ty_26 rfl rfl rfl) rfl rfl ?_
  refine o_callp rfl ent_104 (p_ref02_Fold _ (by omega)) rfl ?_
  refine o_y (y_assign rfl) rfl rfl ?_
  refine wl_nil ?_
  refine e_seq ?_
  refine w_ret ?_
  refine e_ret (ts := [2]) rfl rfl rfl (fun w hw => ?_)
  exact ⟨rfl, hw.base⟩

set_option maxRecDepth 100000 in
theorem c_ref16_Same (e : En) (A B : Option Addr) (c d : Nat) (f : En) (F G : Option Addr) (c2 d2 : Nat) (hla : e.addrs.length ≤ 1000000000000) (hlp : e.ports.length ≤ 1000000000000) : RC Tryz.prog 19 #[.agg (enC e A B c d).toArray, .agg (enC f F G c2 d2).toArray] [Ch.rd A 3 adC e.addrs, Ch.rd B 1 enci e.ports, Ch.rd F 3 adC f.addrs, Ch.rd G 1 enci f.ports] (α := Unit) (fun _ => .bool (decide (e = f))) (fun _ => []) := by
  refine rc_of_W (args := [.agg (enC e A B c d).toArray, .agg (enC f F G c2 d2).toArray]) 94 Tryz.func19 rfl rfl rfl (fun w0 => ?_)
  refine w_seq ?_
  refine w_region ?_
  refine o_box rfl rfl rfl (fun b1 => ?_)
  refine o_box rfl rfl rfl (fun b2 => ?_)
  refine o_y (y_assign rfl) rfl rfl ?_
  refine wl_nil ?_
  refine e_seq ?_
  refine w_seq ?_
  refine w_seq ?_
  refine w_region ?_
  refine o_y (y_field fa_34_0 rfl) rfl rfl ?_
  refine o_y (y_loadr 1 ty_26 rfl rfl rfl) rfl rfl ?_
  refine o_y (y_field fa_34_0 rfl) rfl rfl ?_
  refine o_y (y_loadr 0 ty_26 rfl rfl rfl) rfl rfl ?_
  refine o_y (y_neqs rfl rfl) rfl rfl ?_
  refine wl_splitp (t := 11) rfl (fun h1_4 => ?_) (fun h1_4 => ?_)
  · skip
    refine o_y (y_move rfl) rfl rfl ?_
    refine wl_gno rfl rfl rfl rfl ?_
    refine wl_gno rfl rfl rfl rfl ?_
    refine wl_gno rfl rfl rfl rfl ?_
    refine wl_gno rfl rfl rfl rfl ?_
    refine wl_gno rfl rfl rfl rfl ?_
    refine o_y (y_pick_t rfl rfl) rfl rfl ?_
    refine o_y (y_move rfl) rfl rfl ?_
    refine wl_gno rfl rfl rfl rfl ?_
    refine wl_gno rfl rfl rfl rfl ?_
    refine wl_gno rfl rfl rfl rfl ?_
    refine wl_gno rfl rfl rfl rfl ?_
    refine wl_gno rfl rfl rfl rfl ?_
    refine o_y (y_pick_t rfl rfl) rfl rfl ?_
    refine o_y (y_move rfl) rfl rfl ?_
    refine wl_gno rfl rfl rfl rfl ?_
    refine wl_gno rfl rfl rfl rfl ?_
    refine wl_gno rfl rfl rfl rfl ?_
    refine wl_gno rfl rfl rfl rfl ?_
    refine wl_gno rfl rfl rfl rfl ?_
    refine o_y (y_pick_t rfl rfl) rfl rfl ?_
    refine o_y (y_move rfl) rfl rfl ?_
    refine wl_gno rfl rfl rfl rfl ?_
    refine wl_gno rfl rfl rfl rfl ?_
    refine wl_gno rfl rfl rfl rfl ?_
    refine wl_gno rfl rfl rfl rfl ?_
    refine wl_gno rfl rfl rfl rfl ?_
    refine o_y (y_pick_t rfl rfl) rfl rfl ?_
    refine o_y (y_move rfl) rfl rfl ?_
    refine wl_gno rfl rfl rfl rfl ?_
    refine wl_gno rfl rfl rfl rfl ?_
    refine wl_gno rfl rfl rfl rfl ?_
    refine wl_gno rfl rfl rfl rfl ?_
    refine wl_gno rfl rfl rfl rfl ?_
    refine wl_gno rfl rfl rfl rfl ?_
    refine wl_gno rfl rfl rfl rfl ?_
    refine o_y (y_pick_t rfl rfl) rfl rfl ?_
    refine o_y (y_move rfl) rfl rfl ?_
    refine wl_gno rfl rfl rfl rfl ?_
    refine wl_gno rfl rfl rfl rfl ?_
    refine wl_gno rfl rfl rfl rfl ?_
    refine wl_gno rfl rfl rfl rfl ?_
    refine wl_gno rfl rfl rfl rfl ?_
    refine wl_gno rfl rfl rfl rfl ?_
    refine wl_gno rfl rfl rfl rfl ?_
    refine o_y (y_pick_t rfl rfl) rfl rfl ?_
    refine wl_nil ?_
    refine e_seq ?_
    refine w_cond_t rfl ?_
    refine w_seq ?_
    refine w_region ?_
    refine o_y (y_assign rfl) rfl rfl ?_
    refine wl_nil ?_
    refine e_seq ?_
    refine w_ret ?_
    refine e_seq_ret ?_
    refine e_ret (ts := [4]) rfl rfl rfl (fun w hw => ?_)
    refine ⟨(), ?_, hw.base, (hw.weak (List.nil_sublist _) (fun s hs => hs)).toNews⟩
    show Ending.returned (.bool _) = _
    congr 2
    first
      | (have hP := hP
         have he : e = f := by
           cases e; cases f
           simp_all
         rw [decide_eq_true he]
         done)
      | (have hne : e ≠ f := fun h => by
           subst h
           exact h11_10 rfl
         rw [decide_eq_false hne]
         done)
      | (have hne : e ≠ f := fun h => by
           subst h
           exact h6_10 rfl
         rw [decide_eq_false hne]
         done)
      | (have hne : e ≠ f := fun h => by
           subst h
           simp_all
         rw [decide_eq_false hne]
         done)
      | (trace_state; fail)
  · skip
    refine o_y (y_move rfl) rfl rfl ?_
    refine wl_gyes rfl rfl ?_
    refine o_y (y_field fa_34_1 rfl) rfl rfl ?_
    refine wl_gyes rfl rfl ?_
    refine o_y (y_loadr 1 ty_3 rfl rfl rfl) rfl rfl ?_
    refine wl_gyes rfl rfl ?_
    refine o_y (y_field fa_34_1 rfl) rfl rfl ?_
    refine wl_gyes rfl rfl ?_
    refine o_y (y_loadr 0 ty_3 rfl rfl rfl) rfl rfl ?_
    refine wl_gyes rfl rfl ?_
    refine o_y (y_neq rfl rfl) rfl rfl ?_
    refine wl_splitp (t := 17) rfl (fun h1_10 => ?_) (fun h1_10 => ?_)
    · skip
      refine o_y (y_pick_f rfl rfl) rfl rfl ?_
      refine o_y (y_move rfl) rfl rfl ?_
      refine wl_gno rfl rfl rfl rfl ?_
      refine wl_gno rfl rfl rfl rfl ?_
      refine wl_gno rfl rfl rfl rfl ?_
      refine wl_gno rfl rfl rfl rfl ?_
      refine wl_gno rfl rfl rfl rfl ?_
      refine o_y (y_pick_t rfl rfl) rfl rfl ?_
      refine o_y (y_move rfl) rfl rfl ?_
      refine wl_gno rfl rfl rfl rfl ?_
      refine wl_gno rfl rfl rfl rfl ?_
      refine wl_gno rfl rfl rfl rfl ?_
      refine wl_gno rfl rfl rfl rfl ?_
      refine wl_gno rfl rfl rfl rfl ?_
      refine o_y (y_pick_t rfl rfl) rfl rfl ?_
      refine o_y (y_move rfl) rfl rfl ?_
      refine wl_gno rfl rfl rfl rfl ?_
      refine wl_gno rfl rfl rfl rfl ?_
      refine wl_gno rfl rfl rfl rfl ?_
      refine wl_gno rfl rfl rfl rfl ?_
      refine wl_gno rfl rfl rfl rfl ?_
      refine o_y (y_pick_t rfl rfl) rfl rfl ?_
      refine o_y (y_move rfl) rfl rfl ?_
      refine wl_gno rfl rfl rfl rfl ?_
      refine wl_gno rfl rfl rfl rfl ?_
      refine wl_gno rfl rfl rfl rfl ?_
      refine wl_gno rfl rfl rfl rfl ?_
      refine wl_gno rfl rfl rfl rfl ?_
      refine wl_gno rfl rfl rfl rfl ?_
      refine wl_gno rfl rfl rfl rfl ?_
      refine o_y (y_pick_t rfl rfl) rfl rfl ?_
      refine o_y (y_move rfl) rfl rfl ?_
      refine wl_gno rfl rfl rfl rfl ?_
      refine wl_gno rfl rfl rfl rfl ?_
      refine wl_gno rfl rfl rfl rfl ?_
      refine wl_gno rfl rfl rfl rfl ?_
      refine wl_gno rfl rfl rfl rfl ?_
      refine wl_gno rfl rfl rfl rfl ?_
      refine wl_gno rfl rfl rfl rfl ?_
      refine o_y (y_pick_t rfl rfl) rfl rfl ?_
      refine wl_nil ?_
      refine e_seq ?_
      refine w_cond_t rfl ?_
      refine w_seq ?_
      refine w_region ?_
      refine o_y (y_assign rfl) rfl rfl ?_
      refine wl_nil ?_
      refine e_seq ?_
      refine w_ret ?_
      refine e_seq_ret ?_
      refine e_ret (ts := [4]) rfl rfl rfl (fun w hw => ?_)
      refine ⟨(), ?_, hw.base, (hw.weak (List.nil_sublist _) (fun s hs => hs)).toNews⟩
      show Ending.returned (.bool _) = _
      congr 2
      first
        | (have hP := hP
           have he : e = f := by
             cases e; cases f
             simp_all
           rw [decide_eq_true he]
           done)
        | (have hne : e ≠ f := fun h => by
             subst h
             exact h11_10 rfl
           rw [decide_eq_false hne]
           done)
        | (have hne : e ≠ f := fun h => by
             subst h
             exact h6_10 rfl
           rw [decide_eq_false hne]
           done)
        | (have hne : e ≠ f := fun h => by
             subst h
             simp_all
           rw [decide_eq_false hne]
           done)
        | (trace_state; fail)
    · skip
      refine o_y (y_pick_f rfl rfl) rfl rfl ?_
      refine o_y (y_move rfl) rfl rfl ?_
      refine wl_gyes rfl rfl ?_
      refine o_y (y_field fa_34_2 rfl) rfl rfl ?_
      refine wl_gyes rfl rfl ?_
      refine o_y (y_loadr 1 ty_9 rfl rfl rfl) rfl rfl ?_
      refine wl_gyes rfl rfl ?_
      refine o_y (y_field fa_34_2 rfl) rfl rfl ?_
      refine wl_gyes rfl rfl ?_
      refine o_y (y_loadr 0 ty_9 rfl rfl rfl) rfl rfl ?_
      refine wl_gyes rfl rfl ?_
      refine o_y (y_neqs rfl rfl) rfl rfl ?_
      refine wl_splitp (t := 24) rfl (fun h1_17 => ?_) (fun h1_17 => ?_)
      · skip
        refine o_y (y_pick_f rfl rfl) rfl rfl ?_
        refine o_y (y_move rfl) rfl rfl ?_
        refine wl_gno rfl rfl rfl rfl ?_
        refine wl_gno rfl rfl rfl rfl ?_
        refine wl_gno rfl rfl rfl rfl ?_
        refine wl_gno rfl rfl rfl rfl ?_
        refine wl_gno rfl rfl rfl rfl ?_
        refine o_y (y_pick_t rfl rfl) rfl rfl ?_
        refine o_y (y_move rfl) rfl rfl ?_
        refine wl_gno rfl rfl rfl rfl ?_
        refine wl_gno rfl rfl rfl rfl ?_
        refine wl_gno rfl rfl rfl rfl ?_
        refine wl_gno rfl rfl rfl rfl ?_
        refine wl_gno rfl rfl rfl rfl ?_
        refine o_y (y_pick_t rfl rfl) rfl rfl ?_
        refine o_y (y_move rfl) rfl rfl ?_
        refine wl_gno rfl rfl rfl rfl ?_
        refine wl_gno rfl rfl rfl rfl ?_
        refine wl_gno rfl rfl rfl rfl ?_
        refine wl_gno rfl rfl rfl rfl ?_
        refine wl_gno rfl rfl rfl rfl ?_
        refine wl_gno rfl rfl rfl rfl ?_
        refine wl_gno rfl rfl rfl rfl ?_
        refine o_y (y_pick_t rfl rfl) rfl rfl ?_
        refine o_y (y_move rfl) rfl rfl ?_
        refine wl_gno rfl rfl rfl rfl ?_
        refine wl_gno rfl rfl rfl rfl ?_
        refine wl_gno rfl rfl rfl rfl ?_
        refine wl_gno rfl rfl rfl rfl ?_
        refine wl_gno rfl rfl rfl rfl ?_
        refine wl_gno rfl rfl rfl rfl ?_
        refine wl_gno rfl rfl rfl rfl ?_
        refine o_y (y_pick_t rfl rfl) rfl rfl ?_
        refine wl_nil ?_
        refine e_seq ?_
        refine w_cond_t rfl ?_
        refine w_seq ?_
        refine w_region ?_
        refine o_y (y_assign rfl) rfl rfl ?_
        refine wl_nil ?_
        refine e_seq ?_
        refine w_ret ?_
        refine e_seq_ret ?_
        refine e_ret (ts := [4]) rfl rfl rfl (fun w hw => ?_)
        refine ⟨(), ?_, hw.base, (hw.weak (List.nil_sublist _) (fun s hs => hs)).toNews⟩
        show Ending.returned (.bool _) = _
        congr 2
        first
          | (have hP := hP
             have he : e = f := by
               cases e; cases f
               simp_all
             rw [decide_eq_true he]
             done)
          | (have hne : e ≠ f := fun h => by
               subst h
               exact h11_10 rfl
             rw [decide_eq_false hne]
             done)
          | (have hne : e ≠ f := fun h => by
               subst h
               exact h6_10 rfl
             rw [decide_eq_false hne]
             done)
          | (have hne : e ≠ f := fun h => by
               subst h
               simp_all
             rw [decide_eq_false hne]
             done)
          | (trace_state; fail)
      · skip
        refine o_y (y_pick_f rfl rfl) rfl rfl ?_
        refine o_y (y_move rfl) rfl rfl ?_
        refine wl_gyes rfl rfl ?_
        refine o_y (y_field fa_34_4 rfl) rfl rfl ?_
        refine wl_gyes rfl rfl ?_
        refine o_y (y_loadr 1 ty_26 rfl rfl rfl) rfl rfl ?_
        refine wl_gyes rfl rfl ?_
        refine o_y (y_field fa_34_4 rfl) rfl rfl ?_
        refine wl_gyes rfl rfl ?_
        refine o_y (y_loadr 0 ty_26 rfl rfl rfl) rfl rfl ?_
        refine wl_gyes rfl rfl ?_
        refine o_y (y_neqs rfl rfl) rfl rfl ?_
        refine wl_splitp (t := 31) rfl (fun h1_24 => ?_) (fun h1_24 => ?_)
        · skip
          refine o_y (y_pick_f rfl rfl) rfl rfl ?_
          refine o_y (y_move rfl) rfl rfl ?_
          refine wl_gno rfl rfl rfl rfl ?_
          refine wl_gno rfl rfl rfl rfl ?_
          refine wl_gno rfl rfl rfl rfl ?_
          refine wl_gno rfl rfl rfl rfl ?_
          refine wl_gno rfl rfl rfl rfl ?_
          refine o_y (y_pick_t rfl rfl) rfl rfl ?_
          refine o_y (y_move rfl) rfl rfl ?_
          refine wl_gno rfl rfl rfl rfl ?_
          refine wl_gno rfl rfl rfl rfl ?_
          refine wl_gno rfl rfl rfl rfl ?_
          refine wl_gno rfl rfl rfl rfl ?_
          refine wl_gno rfl rfl rfl rfl ?_
          refine wl_gno rfl rfl rfl rfl ?_
          refine wl_gno rfl rfl rfl rfl ?_
          refine o_y (y_pick_t rfl rfl) rfl rfl ?_
          refine o_y (y_move rfl) rfl rfl ?_
          refine wl_gno rfl rfl rfl rfl ?_
          refine wl_gno rfl rfl rfl rfl ?_
          refine wl_gno rfl rfl rfl rfl ?_
          refine wl_gno rfl rfl rfl rfl ?_
          refine wl_gno rfl rfl rfl rfl ?_
          refine wl_gno rfl rfl rfl rfl ?_
          refine wl_gno rfl rfl rfl rfl ?_
          refine o_y (y_pick_t rfl rfl) rfl rfl ?_
          refine wl_nil ?_
          refine e_seq ?_
          refine w_cond_t rfl ?_
          refine w_seq ?_
          refine w_region ?_
          refine o_y (y_assign rfl) rfl rfl ?_
          refine wl_nil ?_
          refine e_seq ?_
          refine w_ret ?_
          refine e_seq_ret ?_
          refine e_ret (ts := [4]) rfl rfl rfl (fun w hw => ?_)
          refine ⟨(), ?_, hw.base, (hw.weak (List.nil_sublist _) (fun s hs => hs)).toNews⟩
          show Ending.returned (.bool _) = _
          congr 2
          first
            | (have hP := hP
               have he : e = f := by
                 cases e; cases f
                 simp_all
               rw [decide_eq_true he]
               done)
            | (have hne : e ≠ f := fun h => by
                 subst h
                 exact h11_10 rfl
               rw [decide_eq_false hne]
               done)
            | (have hne : e ≠ f := fun h => by
                 subst h
                 exact h6_10 rfl
               rw [decide_eq_false hne]
               done)
            | (have hne : e ≠ f := fun h => by
                 subst h
                 simp_all
               rw [decide_eq_false hne]
               done)
            | (trace_state; fail)
        · skip
          refine o_y (y_pick_f rfl rfl) rfl rfl ?_
          refine o_y (y_move rfl) rfl rfl ?_
          refine wl_gyes rfl rfl ?_
          refine o_y (y_field fa_34_6 rfl) rfl rfl ?_
          refine wl_gyes rfl rfl ?_
          refine o_y (y_loadr 1 ty_32 rfl rfl rfl) rfl rfl ?_
          refine wl_gyes rfl rfl ?_
          refine o_y (y_field fa_34_6 rfl) rfl rfl ?_
          refine wl_gyes rfl rfl ?_
          refine o_y (y_loadr 0 ty_32 rfl rfl rfl) rfl rfl ?_
          refine wl_gyes rfl rfl ?_
          refine o_y (y_neq rfl rfl) rfl rfl ?_
          refine wl_splitp (t := 38) rfl (fun h1_31 => ?_) (fun h1_31 => ?_)
          · skip
            refine o_y (y_pick_f rfl rfl) rfl rfl ?_
            refine o_y (y_move rfl) rfl rfl ?_
            refine wl_gno rfl rfl rfl rfl ?_
            refine wl_gno rfl rfl rfl rfl ?_
            refine wl_gno rfl rfl rfl rfl ?_
            refine wl_gno rfl rfl rfl rfl ?_
            refine wl_gno rfl rfl rfl rfl ?_
            refine wl_gno rfl rfl rfl rfl ?_
            refine wl_gno rfl rfl rfl rfl ?_
            refine o_y (y_pick_t rfl rfl) rfl rfl ?_
            refine o_y (y_move rfl) rfl rfl ?_
            refine wl_gno rfl rfl rfl rfl ?_
            refine wl_gno rfl rfl rfl rfl ?_
            refine wl_gno rfl rfl rfl rfl ?_
            refine wl_gno rfl rfl rfl rfl ?_
            refine wl_gno rfl rfl rfl rfl ?_
            refine wl_gno rfl rfl rfl rfl ?_
            refine wl_gno rfl rfl rfl rfl ?_
            refine o_y (y_pick_t rfl rfl) rfl rfl ?_
            refine wl_nil ?_
            refine e_seq ?_
            refine w_cond_t rfl ?_
            refine w_seq ?_
            refine w_region ?_
            refine o_y (y_assign rfl) rfl rfl ?_
            refine wl_nil ?_
            refine e_seq ?_
            refine w_ret ?_
            refine e_seq_ret ?_
            refine e_ret (ts := [4]) rfl rfl rfl (fun w hw => ?_)
            refine ⟨(), ?_, hw.base, (hw.weak (List.nil_sublist _) (fun s hs => hs)).toNews⟩
            show Ending.returned (.bool _) = _
            congr 2
            first
              | (have hP := hP
                 have he : e = f := by
                   cases e; cases f
                   simp_all
                 rw [decide_eq_true he]
                 done)
              | (have hne : e ≠ f := fun h => by
                   subst h
                   exact h11_10 rfl
                 rw [decide_eq_false hne]
                 done)
              | (have hne : e ≠ f := fun h => by
                   subst h
                   exact h6_10 rfl
                 rw [decide_eq_false hne]
                 done)
              | (have hne : e ≠ f := fun h => by
                   subst h
                   simp_all
                 rw [decide_eq_false hne]
                 done)
              | (trace_state; fail)
          · skip
            refine o_y (y_pick_f rfl rfl) rfl rfl ?_
            refine o_y (y_move rfl) rfl rfl ?_
            refine wl_gyes rfl rfl ?_
            refine o_y (y_field fa_34_3 rfl) rfl rfl ?_
            refine wl_gyes rfl rfl ?_
            refine o_y (y_loadr 1 ty_30 rfl rfl rfl) rfl rfl ?_
            refine wl_gyes rfl rfl ?_
            refine o_y (y_lenl Tryz.underlying30 rfl) rfl rfl ?_
            refine wl_gyes rfl rfl ?_
            refine o_y (y_field fa_34_3 rfl) rfl rfl ?_
            refine wl_gyes rfl rfl ?_
            refine o_y (y_loadr 0 ty_30 rfl rfl rfl) rfl rfl ?_
            refine wl_gyes rfl rfl ?_
            refine o_y (y_lenl Tryz.underlying30 rfl) rfl rfl ?_
            refine wl_gyes rfl rfl ?_
            refine o_y (y_neq rfl rfl) rfl rfl ?_
            refine wl_splitp (t := 47) rfl (fun h1_40 => ?_) (fun h1_40 => ?_)
            · skip
              refine o_y (y_pick_f rfl rfl) rfl rfl ?_
              refine o_y (y_move rfl) rfl rfl ?_
              refine wl_gno rfl rfl rfl rfl ?_
              refine wl_gno rfl rfl rfl rfl ?_
              refine wl_gno rfl rfl rfl rfl ?_
              refine wl_gno rfl rfl rfl rfl ?_
              refine wl_gno rfl rfl rfl rfl ?_
              refine wl_gno rfl rfl rfl rfl ?_
              refine wl_gno rfl rfl rfl rfl ?_
              refine o_y (y_pick_t rfl rfl) rfl rfl ?_
              refine wl_nil ?_
              refine e_seq ?_
              refine w_cond_t rfl ?_
              refine w_seq ?_
              refine w_region ?_
              refine o_y (y_assign rfl) rfl rfl ?_
              refine wl_nil ?_
              refine e_seq ?_
              refine w_ret ?_
              refine e_seq_ret ?_
              refine e_ret (ts := [4]) rfl rfl rfl (fun w hw => ?_)
              refine ⟨(), ?_, hw.base, (hw.weak (List.nil_sublist _) (fun s hs => hs)).toNews⟩
              show Ending.returned (.bool _) = _
              congr 2
              first
                | (have hP := hP
                   have he : e = f := by
                     cases e; cases f
                     simp_all
                   rw [decide_eq_true he]
                   done)
                | (have hne : e ≠ f := fun h => by
                     subst h
                     exact h11_10 rfl
                   rw [decide_eq_false hne]
                   done)
                | (have hne : e ≠ f := fun h => by
                     subst h
                     exact h6_10 rfl
                   rw [decide_eq_false hne]
                   done)
                | (have hne : e ≠ f := fun h => by
                     subst h
                     simp_all
                   rw [decide_eq_false hne]
                   done)
                | (trace_state; fail)
            · skip
              refine o_y (y_pick_f rfl rfl) rfl rfl ?_
              refine o_y (y_move rfl) rfl rfl ?_
              refine wl_gyes rfl rfl ?_
              refine o_y (y_field fa_34_5 rfl) rfl rfl ?_
              refine wl_gyes rfl rfl ?_
              refine o_y (y_loadr 1 ty_31 rfl rfl rfl) rfl rfl ?_
              refine wl_gyes rfl rfl ?_
              refine o_y (y_lenl Tryz.underlying31 rfl) rfl rfl ?_
              refine wl_gyes rfl rfl ?_
              refine o_y (y_field fa_34_5 rfl) rfl rfl ?_
              refine wl_gyes rfl rfl ?_
              refine o_y (y_loadr 0 ty_31 rfl rfl rfl) rfl rfl ?_
              refine wl_gyes rfl rfl ?_
              refine o_y (y_lenl Tryz.underlying31 rfl) rfl rfl ?_
              refine wl_gyes rfl rfl ?_
              refine o_y (y_neq rfl rfl) rfl rfl ?_
              refine wl_splitp (t := 56) rfl (fun h1_49 => ?_) (fun h1_49 => ?_)
              · skip
                refine o_y (y_pick_f rfl rfl) rfl rfl ?_
                refine wl_nil ?_
                refine e_seq ?_
                refine w_cond_t rfl ?_
                refine w_seq ?_
                refine w_region ?_
                refine o_y (y_assign rfl) rfl rfl ?_
                refine wl_nil ?_
                refine e_seq ?_
                refine w_ret ?_
                refine e_seq_ret ?_
                refine e_ret (ts := [4]) rfl rfl rfl (fun w hw => ?_)
                refine ⟨(), ?_, hw.base, (hw.weak (List.nil_sublist _) (fun s hs => hs)).toNews⟩
                show Ending.returned (.bool _) = _
                congr 2
                first
                  | (have hP := hP
                     have he : e = f := by
                       cases e; cases f
                       simp_all
                     rw [decide_eq_true he]
                     done)
                  | (have hne : e ≠ f := fun h => by
                       subst h
                       exact h11_10 rfl
                     rw [decide_eq_false hne]
                     done)
                  | (have hne : e ≠ f := fun h => by
                       subst h
                       exact h6_10 rfl
                     rw [decide_eq_false hne]
                     done)
                  | (have hne : e ≠ f := fun h => by
                       subst h
                       simp_all
                     rw [decide_eq_false hne]
                     done)
                  | (trace_state; fail)
              · skip
                refine o_y (y_pick_f rfl rfl) rfl rfl ?_
                refine wl_nil ?_
                refine e_seq ?_
                refine w_cond_f rfl ?_
                refine w_skip ?_
                refine e_seq ?_
                refine w_seq ?_
                refine w_seq ?_
                refine w_region ?_
                refine o_y (y_assign rfl) rfl rfl ?_
                refine wl_nil ?_
                refine e_seq ?_
                refine w_block ?_
                refine w_loop0 (σ := Nat) [4, 5, 58, 59, 60, 61, 62, 63, 64, 65, 66, 67, 68, 69, 70, 71, 72, 73, 74, 75] (fun k => k ≤ e.addrs.length ∧ e.addrs.take k = f.addrs.take k) (fun k => e.addrs.length - k) (fun k => [(5, .int .i64 k)]) (0) ?_ ⟨rfl, trivial⟩ (fun k hI => ?_)
                · exact ⟨Nat.zero_le _, rfl⟩
                refine w_seq ?_
                refine w_seq ?_
                refine w_region ?_
                refine o_y (y_move rfl) rfl rfl ?_
                refine o_y (y_field fa_34_3 rfl) rfl rfl ?_
                refine o_y (y_loadr 1 ty_30 rfl rfl rfl) rfl rfl ?_
                refine o_y (y_lenl Tryz.underlying30 rfl) rfl rfl ?_
                refine o_y (y_lss rfl rfl) rfl rfl ?_
                refine wl_splitp (t := 62) rfl (fun h4_4 => ?_) (fun h4_4 => ?_)
                · skip
                  refine wl_nil ?_
                  refine e_seq ?_
                  refine w_cond_t rfl ?_
                  refine w_skip ?_
                  refine e_seq ?_
                  refine w_seq ?_
                  refine w_block ?_
                  refine w_seq ?_
                  refine w_draw 11 rfl mixed ?_
                  refine a_take (i := 0) rfl wanted_none (y_field fa_34_3 rfl) (fun w h => h) (fun w h => h) rfl (pk_seq (pk_blk (pk_seq (pk_loop (pk_blk (pk_seq pk_fn)))))) (by kernel_rfl) rfl ?_
                  refine a_take (i := 1) rfl wanted_none (y_loadr 1 ty_30 rfl rfl rfl) (fun w h => h) (fun w h => h) rfl (pk_seq (pk_blk (pk_seq (pk_loop (pk_blk (pk_seq pk_fn)))))) (by kernel_rfl) rfl ?_
                  refine a_take (i := 2) rfl wanted_none (y_move rfl) (fun w h => h) (fun w h => h) rfl (pk_seq (pk_blk (pk_seq (pk_loop (pk_blk (pk_seq pk_fn)))))) (by kernel_rfl) rfl ?_
                  refine a_take (i := 3) rfl wanted_none (y_ixm  Tryz.underlying30 ty_29 rfl rfl (rs_S 0 rfl) rfl (by omega)) (fun w h => h) (fun w h => h) rfl (pk_seq (pk_blk (pk_seq (pk_loop (pk_blk (pk_seq pk_fn)))))) (by kernel_rfl) rfl ?_
                  refine a_take (i := 4) rfl wanted_none (y_ldsm0 enc_ad ad0 ty_29 rfl (rs_S 0 rfl) (by omega) rfl rfl rfl) (fun w h => h) (fun w h => h) rfl (pk_seq (pk_blk (pk_seq (pk_loop (pk_blk (pk_seq pk_fn)))))) (by kernel_rfl) rfl ?_
                  refine a_take (i := 5) rfl wanted_none (y_field fa_34_3 rfl) (fun w h => h) (fun w h => h) rfl (pk_seq (pk_blk (pk_seq (pk_loop (pk_blk (pk_seq pk_fn)))))) (by kernel_rfl) rfl ?_
                  refine a_take (i := 6) rfl wanted_none (y_loadr 0 ty_30 rfl rfl rfl) (fun w h => h) (fun w h => h) rfl (pk_seq (pk_blk (pk_seq (pk_loop (pk_blk (pk_seq pk_fn)))))) (by kernel_rfl) rfl ?_
                  refine a_take (i := 7) rfl wanted_none (y_move rfl) (fun w h => h) (fun w h => h) rfl (pk_seq (pk_blk (pk_seq (pk_loop (pk_blk (pk_seq pk_fn)))))) (by kernel_rfl) rfl ?_
                  refine a_take (i := 8) rfl wanted_none (y_ixm  Tryz.underlying30 ty_29 rfl rfl (rs_S 2 rfl) rfl (by omega)) (fun w h => h) (fun w h => h) rfl (pk_seq (pk_blk (pk_seq (pk_loop (pk_blk (pk_seq pk_fn)))))) (by kernel_rfl) rfl ?_
                  refine a_take (i := 9) rfl wanted_none (y_ldsm0 enc_ad ad0 ty_29 rfl (rs_S 2 rfl) (by omega) rfl rfl rfl) (fun w h => h) (fun w h => h) rfl (pk_seq (pk_blk (pk_seq (pk_loop (pk_blk (pk_seq pk_fn)))))) (by kernel_rfl) rfl ?_
                  refine a_take (i := 10) rfl wanted_none (y_nestd (by kernel_rfl) rfl rfl (eqd_ad _ _) rfl) (fun w h => h) (fun w h => h) rfl (pk_seq (pk_blk (pk_seq (pk_loop (pk_blk (pk_seq pk_fn)))))) (by kernel_rfl) rfl ?_
                  refine wa_splitp (t := 75) rfl (fun h6_10 => ?_) (fun h6_10 => ?_)
                  · skip
                    refine a_done (by kernel_rfl) ?_
                    refine e_seq ?_
                    refine w_cond_t rfl ?_
                    refine w_seq ?_
                    refine w_region ?_
                    refine o_y (y_assign rfl) rfl rfl ?_
                    refine wl_nil ?_
                    refine e_seq ?_
                    refine w_ret ?_
                    refine e_blk_ret ?_
                    refine e_seq_ret ?_
                    refine e_loop_ret ?_
                    refine e_blk_ret ?_
                    refine e_seq_ret ?_
                    refine e_ret (ts := [4]) rfl rfl rfl (fun w hw => ?_)
                    refine ⟨(), ?_, hw.base, (hw.weak (List.nil_sublist _) (fun s hs => hs)).toNews⟩
                    show Ending.returned (.bool _) = _
                    congr 2
                    first
                      | (have hP := hP
                         have he : e = f := by
                           cases e; cases f
                           simp_all
                         rw [decide_eq_true he]
                         done)
                      | (have hne : e ≠ f := fun h => by
                           subst h
                           exact h11_10 rfl
                         rw [decide_eq_false hne]
                         done)
                      | (have hne : e ≠ f := fun h => by
                           subst h
                           exact h6_10 rfl
                         rw [decide_eq_false hne]
                         done)
                      | (have hne : e ≠ f := fun h => by
                           subst h
                           simp_all
                         rw [decide_eq_false hne]
                         done)
                      | (trace_state; fail)
                  · skip
                    refine a_done (by kernel_rfl) ?_
                    refine e_seq ?_
                    refine w_cond_f rfl ?_
                    refine w_skip ?_
                    refine e_blk ?_
                    refine e_seq ?_
                    refine w_region ?_
                    refine o_y (y_move rfl) rfl rfl ?_
                    refine o_y (y_addi rfl rfl (by omega) (by omega)) rfl rfl ?_
                    refine o_y (y_assign rfl) rfl rfl ?_
                    refine wl_nil ?_
                    refine e_back (k + 1) ?_ ?_ ⟨rfl, trivial⟩ (by repeat (first | exact trivial | refine ⟨rfl, ?_⟩)) (fun w h => h)
                    · exact ⟨by omega, take_eq_succ ad0 (by omega) (by omega) hI.2 (by simpa using h6_10)⟩
                    · omega
                · skip
                  refine wl_nil ?_
                  refine e_seq ?_
                  refine w_cond_f rfl ?_
                  refine w_exit ?_
                  refine e_seq_exit ?_
                  refine e_loop_exit ?_
                  refine e_blk_hit ?_
                  refine e_seq ?_
                  refine w_seq ?_
                  refine w_seq ?_
                  have hA : e.addrs = f.addrs := by
                    have := hI.2
                    rw [show k = e.addrs.length by omega, List.take_length, List.take_of_length_le (by omega)] at this
                    exact this
                  refine w_region ?_
                  refine o_y (y_assign rfl) rfl rfl ?_
                  refine wl_nil ?_
                  refine e_seq ?_
                  refine w_block ?_
                  refine w_loop0 (σ := Nat) [4, 6, 76, 77, 78, 79, 80, 81, 82, 83, 84, 85, 86, 87, 88, 89, 90, 91, 92, 93] (fun j => j ≤ e.ports.length ∧ e.ports.take j = f.ports.take j) (fun j => e.ports.length - j) (fun j => [(6, .int .i64 j)]) (0) ?_ ⟨rfl, trivial⟩ (fun j hI => ?_)
                  · exact ⟨Nat.zero_le _, rfl⟩
                  refine w_seq ?_
                  refine w_seq ?_
                  refine w_region ?_
                  refine o_y (y_move rfl) rfl rfl ?_
                  refine o_y (y_field fa_34_5 rfl) rfl rfl ?_
                  refine o_y (y_loadr 1 ty_31 rfl rfl rfl) rfl rfl ?_
                  refine o_y (y_lenl Tryz.underlying31 rfl) rfl rfl ?_
                  refine o_y (y_lss rfl rfl) rfl rfl ?_
                  refine wl_splitp (t := 80) rfl (fun h9_4 => ?_) (fun h9_4 => ?_)
                  · skip
                    refine wl_nil ?_
                    refine e_seq ?_
                    refine w_cond_t rfl ?_
                    refine w_skip ?_
                    refine e_seq ?_
                    refine w_seq ?_
                    refine w_block ?_
                    refine w_seq ?_
                    refine w_draw 11 rfl mixed ?_
                    refine a_take (i := 0) rfl wanted_none (y_field fa_34_5 rfl) (fun w h => h) (fun w h => h) rfl (pk_seq (pk_blk (pk_seq (pk_loop (pk_blk (pk_seq pk_fn)))))) (by kernel_rfl) rfl ?_
                    refine a_take (i := 1) rfl wanted_none (y_loadr 1 ty_31 rfl rfl rfl) (fun w h => h) (fun w h => h) rfl (pk_seq (pk_blk (pk_seq (pk_loop (pk_blk (pk_seq pk_fn)))))) (by kernel_rfl) rfl ?_
                    refine a_take (i := 2) rfl wanted_none (y_move rfl) (fun w h => h) (fun w h => h) rfl (pk_seq (pk_blk (pk_seq (pk_loop (pk_blk (pk_seq pk_fn)))))) (by kernel_rfl) rfl ?_
                    refine a_take (i := 3) rfl wanted_none (y_ixm  Tryz.underlying31 ty_3 rfl rfl (rs_S 1 rfl) rfl (by omega)) (fun w h => h) (fun w h => h) rfl (pk_seq (pk_blk (pk_seq (pk_loop (pk_blk (pk_seq pk_fn)))))) (by kernel_rfl) rfl ?_
                    refine a_take (i := 4) rfl wanted_none (y_ldm0 enc_i (0 : Int) ty_3 rfl (rs_S 1 rfl) (by omega) rfl rfl) (fun w h => h) (fun w h => h) rfl (pk_seq (pk_blk (pk_seq (pk_loop (pk_blk (pk_seq pk_fn)))))) (by kernel_rfl) rfl ?_
                    refine a_take (i := 5) rfl wanted_none (y_field fa_34_5 rfl) (fun w h => h) (fun w h => h) rfl (pk_seq (pk_blk (pk_seq (pk_loop (pk_blk (pk_seq pk_fn)))))) (by kernel_rfl) rfl ?_
                    refine a_take (i := 6) rfl wanted_none (y_loadr 0 ty_31 rfl rfl rfl) (fun w h => h) (fun w h => h) rfl (pk_seq (pk_blk (pk_seq (pk_loop (pk_blk (pk_seq pk_fn)))))) (by kernel_rfl) rfl ?_
                    refine a_take (i := 7) rfl wanted_none (y_move rfl) (fun w h => h) (fun w h => h) rfl (pk_seq (pk_blk (pk_seq (pk_loop (pk_blk (pk_seq pk_fn)))))) (by kernel_rfl) rfl ?_
                    refine a_take (i := 8) rfl wanted_none (y_ixm  Tryz.underlying31 ty_3 rfl rfl (rs_S 3 rfl) rfl (by omega)) (fun w h => h) (fun w h => h) rfl (pk_seq (pk_blk (pk_seq (pk_loop (pk_blk (pk_seq pk_fn)))))) (by kernel_rfl) rfl ?_
                    refine a_take (i := 9) rfl wanted_none (y_ldm0 enc_i (0 : Int) ty_3 rfl (rs_S 3 rfl) (by omega) rfl rfl) (fun w h => h) (fun w h => h) rfl (pk_seq (pk_blk (pk_seq (pk_loop (pk_blk (pk_seq pk_fn)))))) (by kernel_rfl) rfl ?_
                    refine a_take (i := 10) rfl wanted_none (y_neq rfl rfl) (fun w h => h) (fun w h => h) rfl (pk_seq (pk_blk (pk_seq (pk_loop (pk_blk (pk_seq pk_fn)))))) (by kernel_rfl) rfl ?_
                    refine wa_splitp (t := 93) rfl (fun h11_10 => ?_) (fun h11_10 => ?_)
                    · skip
                      refine a_done (by kernel_rfl) ?_
                      refine e_seq ?_
                      refine w_cond_t rfl ?_
                      refine w_seq ?_
                      refine w_region ?_
                      refine o_y (y_assign rfl) rfl rfl ?_
                      refine wl_nil ?_
                      refine e_seq ?_
                      refine w_ret ?_
                      refine e_blk_ret ?_
                      refine e_seq_ret ?_
                      refine e_loop_ret ?_
                      refine e_blk_ret ?_
                      refine e_seq_ret ?_
                      refine e_ret (ts := [4]) rfl rfl rfl (fun w hw => ?_)
                      refine ⟨(), ?_, hw.base, (hw.weak (List.nil_sublist _) (fun s hs => hs)).toNews⟩
                      show Ending.returned (.bool _) = _
                      congr 2
                      first
                        | (have hP := hP
                           have he : e = f := by
                             cases e; cases f
                             simp_all
                           rw [decide_eq_true he]
                           done)
                        | (have hne : e ≠ f := fun h => by
                             subst h
                             exact h11_10 rfl
                           rw [decide_eq_false hne]
                           done)
                        | (have hne : e ≠ f := fun h => by
                             subst h
                             exact h6_10 rfl
                           rw [decide_eq_false hne]
                           done)
                        | (have hne : e ≠ f := fun h => by
                             subst h
                             simp_all
                           rw [decide_eq_false hne]
                           done)
                        | (trace_state; fail)
                    · skip
                      refine a_done (by kernel_rfl) ?_
                      refine e_seq ?_
                      refine w_cond_f rfl ?_
                      refine w_skip ?_
                      refine e_blk ?_
                      refine e_seq ?_
                      refine w_region ?_
                      refine o_y (y_move rfl) rfl rfl ?_
                      refine o_y (y_addi rfl rfl (by omega) (by omega)) rfl rfl ?_
                      refine o_y (y_assign rfl) rfl rfl ?_
                      refine wl_nil ?_
                      refine e_back (j + 1) ?_ ?_ ⟨rfl, trivial⟩ (by repeat (first | exact trivial | refine ⟨rfl, ?_⟩)) (fun w h => h)
                      · exact ⟨by omega, take_eq_succ (0 : Int) (by omega) (by omega) hI.2 (by simpa using h11_10)⟩
                      · omega
                  · skip
                    refine wl_nil ?_
                    refine e_seq ?_
                    refine w_cond_f rfl ?_
                    refine w_exit ?_
                    refine e_seq_exit ?_
                    refine e_loop_exit ?_
                    refine e_blk_hit ?_
                    refine e_seq ?_
                    refine w_seq ?_
                    have hP : e.ports = f.ports := by
                      have := hI.2
                      rw [show j = e.ports.length by omega, List.take_length, List.take_of_length_le (by omega)] at this
                      exact this
                    refine w_region ?_
                    refine o_y (y_assign rfl) rfl rfl ?_
                    refine wl_nil ?_
                    refine e_seq ?_
                    refine w_ret ?_
                    refine e_ret (ts := [4]) rfl rfl rfl (fun w hw => ?_)
                    refine ⟨(), ?_, hw.base, (hw.weak (List.nil_sublist _) (fun s hs => hs)).toNews⟩
                    show Ending.returned (.bool _) = _
                    congr 2
                    first
                      | (have hP := hP
                         have he : e = f := by
                           cases e; cases f
                           simp_all
                         rw [decide_eq_true he]
                         done)
                      | (have hne : e ≠ f := fun h => by
                           subst h
                           exact h11_10 rfl
                         rw [decide_eq_false hne]
                         done)
                      | (have hne : e ≠ f := fun h => by
                           subst h
                           exact h6_10 rfl
                         rw [decide_eq_false hne]
                         done)
                      | (have hne : e ≠ f := fun h => by
                           subst h
                           simp_all
                         rw [decide_eq_false hne]
                         done)
                      | (trace_state; fail)

theorem c_ref16_Addrs (e : En) (A B : Option Addr) (c d : Nat) (H : Option Addr) (h : Nat) (held : List Ad) (hwh : ∀ a ∈ held, 0 ≤ a.lo) (hlh : held.length ≤ 10000000000) (hwa : ∀ a ∈ e.addrs, 0 ≤ a.lo) (hla : e.addrs.length ≤ 10000000000) (hlp : e.ports.length ≤ 10000000000) (hk : -9223372036854775808 ≤ e.kind ∧ e.kind ≤ 9223372036854775807) : RC Tryz.prog 73 #[.agg (enC e A B c d).toArray, .slice H held.length h] [Ch.rd A 3 adC e.addrs, Ch.rd B 1 enci e.ports, Ch.rd H 3 adC held] (α := Option Addr × Nat) (fun p => .slice p.1 (entAd e held).length p.2) (fun p => [Ch.ls p.1 p.2 29 3 adC (entAd e held)]) := by
  refine rc_of_W (args := [.agg (enC e A B c d).toArray, .slice H held.length h]) 42 Tryz.func73 rfl rfl rfl (fun w0 => ?_)
  refine w_seq ?_
  refine w_region ?_
  refine o_box rfl rfl rfl (fun b1 => ?_)
  refine o_y (y_assign rfl) rfl rfl ?_
  refine wl_nil ?_
  refine e_seq ?_
  refine w_seq ?_
  refine w_region ?_
  refine o_y (y_assign rfl) rfl rfl ?_
  refine wl_nil ?_
  refine e_seq ?_
  refine w_seq ?_
  refine w_seq ?_
  refine w_region ?_
  refine o_y (y_loadrs 0 ty_34 rfl rfl rfl rfl) rfl rfl ?_
  refine o_callq rfl ent_101 rfl (c_ref16_Check _ _ _ _ _ hwa (by omega) (by omega) hk) (fun w hw => (rd_cons (rd_S 0 rfl hw) (rd_cons (rd_S 1 rfl hw) rd_nil))) ?_
  refine o_y (y_neq rfl rfl) rfl rfl ?_
  refine wl_splitp (t := 9) rfl (fun h2_2 => ?_) (fun h2_2 => ?_)
  · skip
    refine wl_nil ?_
    refine e_seq ?_
    refine w_cond_t rfl ?_
    refine w_seq ?_
    refine w_region ?_
    refine o_y (y_assign rfl) rfl rfl ?_
    refine wl_nil ?_
    refine e_seq ?_
    refine w_ret ?_
    refine e_seq_ret ?_
    refine e_ret (ts := [4]) rfl rfl rfl (fun w hw => ?_)
    have hq : entAd e held = [] := if_pos h2_2
    rw [hq]
    exact ⟨(none, 0), rfl, hw.base, ((hw.weak (List.nil_sublist _) (fun s hs => hs)).nilsl 29 3).toNews⟩
  · skip
    refine wl_nil ?_
    refine e_seq ?_
    refine w_cond_f rfl ?_
    refine w_skip ?_
    refine e_seq ?_
    refine w_seq ?_
    refine w_seq ?_
    refine w_region ?_
    refine o_y (y_field fa_34_1 rfl) rfl rfl ?_
    refine o_y (y_loadr 0 ty_3 rfl rfl rfl) rfl rfl ?_
    refine o_y (y_eql rfl rfl) rfl rfl ?_
    refine wl_splitp (t := 12) rfl (fun h4_2 => ?_) (fun h4_2 => ?_)
    · skip
      refine wl_nil ?_
      refine e_seq ?_
      refine w_cond_t rfl ?_
      refine w_seq ?_
      refine w_region ?_
      refine o_y (y_move rfl) rfl rfl ?_
      refine o_y (y_field fa_34_3 rfl) rfl rfl ?_
      refine o_y (y_loadr 0 ty_30 rfl rfl rfl) rfl rfl ?_
      refine wl_heap (fun w h => h.nilsl 29 3) ?_
      refine o_appm (xs := ([] : List (Ad))) (enc := adC) (sz := 3) e.addrs Tryz.underlying30 ty_29 rfl rfl rfl (fun A c => .z) (src_S 0 Tryz.underlying30 rfl) (by simp only [List.length_cons, List.length_nil, Nat.zero_add]; omega) (by simp only [List.length_cons, List.length_nil, Nat.zero_add]; omega) rfl (fun A2 c2 => ?_)
      refine o_y (y_assign rfl) rfl rfl ?_
      refine wl_nil ?_
      refine e_seq ?_
      refine w_ret ?_
      refine e_seq_ret ?_
      refine e_ret (ts := [4]) rfl rfl rfl (fun w hw => ?_)
      have hq : entAd e held = e.addrs := by rw [entAd, if_neg h2_2, if_pos h4_2]
      rw [hq]
      exact ⟨(A2, c2), rfl, hw.base, (hw.weak (.cons_cons _ (List.nil_sublist _)) (fun s hs => hs)).toNews⟩
    · skip
      refine wl_nil ?_
      refine e_seq ?_
      refine w_cond_f rfl ?_
      refine w_skip ?_
      refine e_seq ?_
      refine w_seq ?_
      refine w_seq ?_
      refine w_region ?_
      refine o_y (y_assign rfl) rfl rfl ?_
      refine wl_nil ?_
      refine e_seq ?_
      refine w_block ?_
      refine w_heap (fun w h => h.nilsl 29 3) ?_
      refine w_loop1 (σ := Nat × Option Addr × Nat) [5, 6, 17, 18, 19, 20, 21, 22, 23, 24, 25, 26, 27, 28, 29, 30, 31, 32, 33, 34, 35, 36, 37, 38, 39, 40] (fun q => q.1 ≤ held.length ∧ (q.1 = 0 ∨ e.kind = 2)) (fun q => held.length - q.1) (fun q => [(6, .int .i64 q.1), (5, .slice q.2.1 ((held.take q.1).filter (fun a => decide (addrCk a = 0))).length q.2.2)]) (fun q => Ch.ls q.2.1 q.2.2 29 3 adC ((held.take q.1).filter (fun a => decide (addrCk a = 0)))) ((0, none, 0)) ?_ ⟨rfl, rfl, trivial⟩ rfl (fun q hI => ?_)
      · exact ⟨Nat.zero_le _, .inl rfl⟩
      obtain ⟨k, Aq, cq⟩ := q
      dsimp only at hI ⊢
      have hfl := filter_take_le (fun a => decide (addrCk a = 0)) held k
      refine w_seq ?_
      refine w_seq ?_
      refine w_region ?_
      refine o_y (y_move rfl) rfl rfl ?_
      refine o_y (y_move rfl) rfl rfl ?_
      refine o_y (y_lenl Tryz.underlying30 rfl) rfl rfl ?_
      refine o_y (y_lss rfl rfl) rfl rfl ?_
      refine wl_splitp (t := 20) rfl (fun h7_3 => ?_) (fun h7_3 => ?_)
      · skip
        refine o_y (y_move rfl) rfl rfl ?_
        refine wl_gyes rfl rfl ?_
        refine o_y (y_field fa_34_1 rfl) rfl rfl ?_
        refine wl_gyes rfl rfl ?_
        refine o_y (y_loadr 1 ty_3 rfl rfl rfl) rfl rfl ?_
        refine wl_gyes rfl rfl ?_
        refine o_y (y_eql rfl rfl) rfl rfl ?_
        refine wl_splitp (t := 24) rfl (fun h7_7 => ?_) (fun h7_7 => ?_)
        · skip
          refine o_y (y_pick_t rfl rfl) rfl rfl ?_
          refine wl_nil ?_
          refine e_seq ?_
          refine w_cond_t rfl ?_
          refine w_skip ?_
          refine e_seq ?_
          refine w_seq ?_
          refine w_block ?_
          refine w_seq ?_
          refine w_region ?_
          refine o_y (y_move rfl) rfl rfl ?_
          refine o_y (y_move rfl) rfl rfl ?_
          refine o_y (y_ixm  Tryz.underlying30 ty_29 rfl rfl (rs_S 2 rfl) rfl (by omega)) rfl rfl ?_
          refine o_y (y_ldsm0 enc_ad ad0 ty_29 rfl (rs_S 2 rfl) (by omega) rfl rfl rfl) rfl rfl ?_
          refine o_callp rfl ent_63 (c_ref04_Check _ (hwh _ (mem_getA (by omega)))) rfl ?_
          refine o_y (y_eql rfl rfl) rfl rfl ?_
          refine wl_splitp (t := 33) rfl (fun h9_5 => ?_) (fun h9_5 => ?_)
          · skip
            refine wl_nil ?_
            refine e_seq ?_
            refine w_cond_t rfl ?_
            refine w_region ?_
            refine o_y (y_move rfl) rfl rfl ?_
            refine o_y (y_move rfl) rfl rfl ?_
            refine o_y (y_move rfl) rfl rfl ?_
            refine o_y (y_ixm  Tryz.underlying30 ty_29 rfl rfl (rs_S 2 rfl) rfl (by omega)) rfl rfl ?_
            refine o_y (y_ldsm0 enc_ad ad0 ty_29 rfl (rs_S 2 rfl) (by omega) rfl rfl rfl) rfl rfl ?_
            refine o_bsl (vs := [_]) ([_] : List (Ad)) enc_ad Tryz.underlying30 ty_29 rfl rfl rfl rfl rfl rfl (fun As4 => ?_)
            refine o_appm (enc := adC) (sz := 3) _ Tryz.underlying30 ty_29 rfl rfl rfl (fun A c => (.s (.z))) (src_L 0 Tryz.underlying30 rfl) (by simp only [List.length_cons, List.length_nil, Nat.zero_add]; omega) (by simp only [List.length_cons, List.length_nil, Nat.zero_add]; omega) rfl (fun A4 c4 => ?_)
            refine o_y (y_assign rfl) rfl rfl ?_
            refine wl_nil ?_
            refine e_blk ?_
            refine e_seq ?_
            refine w_region ?_
            refine o_y (y_move rfl) rfl rfl ?_
            refine o_y (y_addi rfl rfl (by omega) (by omega)) rfl rfl ?_
            refine o_y (y_assign rfl) rfl rfl ?_
            refine wl_nil ?_
            have hfs := filter_yes (F := (fun a => decide (addrCk a = 0))) (l := held) (d := ad0) (k := k) (by omega) (by simpa using h9_5)
            refine e_back ((k + 1, A4, c4)) ?_ ?_ ⟨rfl, lk rfl (by rw [hfs]), trivial⟩ (by repeat (first | exact trivial | refine ⟨rfl, ?_⟩)) (fun w h => by show Hp _ _ (Ch.ls _ _ _ _ _ ((held.take (k + 1)).filter (fun a => decide (addrCk a = 0))) :: _) _ _; rw [hfs]; exact h.weak (.cons _ (List.Sublist.refl _)) (fun s hs => hs))
            · exact ⟨by show k + 1 ≤ _; omega, .inr (by omega)⟩
            · show held.length - (k + 1) < held.length - k
              omega
          · skip
            refine wl_nil ?_
            refine e_seq ?_
            refine w_cond_f rfl ?_
            refine w_skip ?_
            refine e_blk ?_
            refine e_seq ?_
            refine w_region ?_
            refine o_y (y_move rfl) rfl rfl ?_
            refine o_y (y_addi rfl rfl (by omega) (by omega)) rfl rfl ?_
            refine o_y (y_assign rfl) rfl rfl ?_
            refine wl_nil ?_
            have hfs := filter_no (F := (fun a => decide (addrCk a = 0))) (l := held) (d := ad0) (k := k) (by omega) (by simpa using h9_5)
            refine e_back ((k + 1, Aq, cq)) ?_ ?_ ⟨rfl, lk rfl (by rw [hfs]), trivial⟩ (by repeat (first | exact trivial | refine ⟨rfl, ?_⟩)) (fun w h => by show Hp _ _ (Ch.ls _ _ _ _ _ ((held.take (k + 1)).filter (fun a => decide (addrCk a = 0))) :: _) _ _; rw [hfs]; exact h.weak (List.Sublist.refl _) (fun s hs => hs))
            · exact ⟨by show k + 1 ≤ _; omega, .inr (by omega)⟩
            · show held.length - (k + 1) < held.length - k
              omega
        · skip
          refine o_y (y_pick_t rfl rfl) rfl rfl ?_
          refine wl_nil ?_
          refine e_seq ?_
          refine w_cond_f rfl ?_
          refine w_exit ?_
          refine e_seq_exit ?_
          refine e_loop_exit ?_
          refine e_blk_hit ?_
          refine e_seq ?_
          refine w_seq ?_
          refine w_region ?_
          refine o_y (y_move rfl) rfl rfl ?_
          refine o_y (y_assign rfl) rfl rfl ?_
          refine wl_nil ?_
          refine e_seq ?_
          refine w_ret ?_
          refine e_ret (ts := [4]) rfl rfl rfl (fun w hw => ?_)
          by_cases hk2 : e.kind = 2
          · have hkl : k = held.length := by omega
            have hq : entAd e held = held.filter fun a => decide (addrCk a = 0) := by rw [entAd, if_neg h2_2, if_neg h4_2, if_neg (by omega)]
            subst hkl
            rw [hq]
            rw [List.take_length] at hw ⊢
            exact ⟨(Aq, cq), rfl, hw.base, (hw.weak (.cons_cons _ (List.nil_sublist _)) (fun s hs => hs)).toNews⟩
          · have hk0 : k = 0 := by omega
            have hq : entAd e held = [] := by rw [entAd, if_neg h2_2, if_neg h4_2, if_pos (by omega)]
            have hz : (held.take k).filter (fun a => decide (addrCk a = 0)) = [] := by rw [hk0]; rfl
            rw [hz] at hw ⊢
            rw [hq]
            exact ⟨(Aq, cq), rfl, hw.base, (hw.weak (.cons_cons _ (List.nil_sublist _)) (fun s hs => hs)).toNews⟩
      · skip
        refine o_y (y_move rfl) rfl rfl ?_
        refine wl_gno rfl rfl rfl rfl ?_
        refine wl_gno rfl rfl rfl rfl ?_
        refine wl_gno rfl rfl rfl rfl ?_
        refine o_y (y_pick_f rfl rfl) rfl rfl ?_
        refine wl_nil ?_
        refine e_seq ?_
        refine w_cond_f rfl ?_
        refine w_exit ?_
        refine e_seq_exit ?_
        refine e_loop_exit ?_
        refine e_blk_hit ?_
        refine e_seq ?_
        refine w_seq ?_
        refine w_region ?_
        refine o_y (y_move rfl) rfl rfl ?_
        refine o_y (y_assign rfl) rfl rfl ?_
        refine wl_nil ?_
        refine e_seq ?_
        refine w_ret ?_
        refine e_ret (ts := [4]) rfl rfl rfl (fun w hw => ?_)
        by_cases hk2 : e.kind = 2
        · have hkl : k = held.length := by omega
          have hq : entAd e held = held.filter fun a => decide (addrCk a = 0) := by rw [entAd, if_neg h2_2, if_neg h4_2, if_neg (by omega)]
          subst hkl
          rw [hq]
          rw [List.take_length] at hw ⊢
          exact ⟨(Aq, cq), rfl, hw.base, (hw.weak (.cons_cons _ (List.nil_sublist _)) (fun s hs => hs)).toNews⟩
        · have hk0 : k = 0 := by omega
          have hq : entAd e held = [] := by rw [entAd, if_neg h2_2, if_neg h4_2, if_pos (by omega)]
          have hz : (held.take k).filter (fun a => decide (addrCk a = 0)) = [] := by rw [hk0]; rfl
          rw [hz] at hw ⊢
          rw [hq]
          exact ⟨(Aq, cq), rfl, hw.base, (hw.weak (.cons_cons _ (List.nil_sublist _)) (fun s hs => hs)).toNews⟩


def Bf1 (t : Int) (a : Ad) : Bool := decide ((t = 1 ∧ a.six = false) ∨ (t = 28 ∧ a.six = true))
def D1 (a : Ad) : Dt := { dt0 with ad := a }
def D2 (owner : Str) (p : Int) : Dt := { dt0 with name := owner, n2 := IntKind.u32.wrap p }
def r0R (e : En) (owner : Str) (t : Int) : Rc := ⟨owner, t, 1, e.ttl, dt0⟩
theorem each_none {α : Type} {D : α → Dt} {B : α → Bool} {r : Rc} {l : List α} (h : ∀ a, B a = false) : each D B r l = [] := by
  rw [each, show l.filter B = [] from List.filter_eq_nil_iff.2 (fun a _ => by rw [h a]; decide)]; rfl
def o1R (e : En) (owner : Str) (held : List Ad) (t : Int) : List Rc := each D1 (Bf1 t) (r0R e owner t) (entAd e held)
theorem bf1_28 {t : Int} (h : t = 1 ∨ t = 28) : Bf1 t = fun a => decide (a.six = decide (t = 28)) := by
  funext a
  rcases h with rfl | rfl <;> cases h2 : a.six <;> simp [Bf1, h2]
theorem bf1_none {t : Int} (h : ¬ (t = 1 ∨ t = 28)) (a : Ad) : Bf1 t a = false := by
  simp only [Bf1, decide_eq_false_iff_not]; omega
theorem recs_ref {e : En} {owner : Str} {held : List Ad} {t : Int} (h1 : ¬ entCk e ≠ 0) (h2 : ¬ nameCk owner ≠ 0) : recs e owner held t =
    o1R e owner held t ++ (if t = 33 then each (D2 owner) (fun _ => true) (r0R e owner t) e.ports else []) ++ (if t = 5 ∧ e.kind = 3 then [{ r0R e owner t with dt := { dt0 with name := e.alias } }] else []) := by
  rw [recs_eq h1 h2]
  by_cases c1 : t = 1 ∨ t = 28
  · rw [if_pos c1, if_neg (by omega), if_neg (by omega), o1R, bf1_28 c1]; simp; rfl
  · rw [if_neg c1, o1R, each_none (bf1_none c1)]
    by_cases c2 : t = 33
    · rw [if_pos c2, if_pos c2, if_neg (by omega)]; simp; rfl
    · rw [if_neg c2, if_neg c2]
      by_cases c3 : t = 5
      · rw [if_pos c3]
        by_cases c4 : e.kind = 3
        · rw [if_pos ⟨c3, c4⟩]; simp [each, c4, r0R]
        · rw [if_neg (fun h => c4 h.2)]; simp [each, c4]
      · rw [if_neg c3, if_neg (fun h => c3 h.1)]; rfl

end Go.Proofs.YtckfjfnkombelaaGreat
