/- the reference of entries; the law of calls -/
import Derived.Test.YtckfjfnkombelaaClQO
namespace Go.Proofs.Ytckfjfnkombelaa
open Go.RowKit Go.Shelf
set_option linter.unusedVariables false
set_option linter.unusedSimpArgs false

theorem ent_22 : Enters Try.prog 22 := enters_of Try.func22 (by kernel_rfl) rfl

theorem c_ref16_Key (e : En) (A B : Option Addr) (c d : Nat) (hn : e.host.length ≤ 1000000000) : Pure Try.prog 86 #[.agg (enC e A B c d).toArray] (.string (ba (foldN e.host))) := by
  intro w0
  refine calls_of_W (ok0 := no) (S := []) (args := [.agg (enC e A B c d).toArray]) 6 Try.func86 rfl rfl rfl (by simp) (by simp) ?_
  refine w_seq ?_
  refine w_region ?_
  refine o_box rfl rfl rfl (fun b1 => ?_)
  refine o_y (y_assign rfl) rfl rfl ?_
  refine wl_nil ?_
  refine e_seq ?_
  refine w_seq ?_
  refine w_region ?_
  refine o_y (y_field fa_50_0 rfl) rfl rfl ?_
  refine o_y (y_loadr 0 ty_25 rfl rfl rfl) rfl rfl ?_
  refine o_callp rfl ent_22 (p_ref02_Fold _ (by omega)) rfl ?_
  refine o_y (y_assign rfl) rfl rfl ?_
  refine wl_nil ?_
  refine e_seq ?_
  refine w_ret ?_
  refine e_ret (ts := [2]) rfl rfl rfl (fun w hw => ?_)
  exact ⟨rfl, hw.base⟩

set_option maxRecDepth 100000 in
theorem c_ref16_Same (e : En) (A B : Option Addr) (c d : Nat) (f : En) (F G : Option Addr) (c2 d2 : Nat) (hla : e.addrs.length ≤ 1000000000000) (hlp : e.ports.length ≤ 1000000000000) : RC Try.prog 29 #[.agg (enC e A B c d).toArray, .agg (enC f F G c2 d2).toArray] [Ch.rd A 3 adC e.addrs, Ch.rd B 1 enci e.ports, Ch.rd F 3 adC f.addrs, Ch.rd G 1 enci f.ports] (α := Unit) (fun _ => .bool (decide (e = f))) (fun _ => []) := by
  refine rc_of_W (args := [.agg (enC e A B c d).toArray, .agg (enC f F G c2 d2).toArray]) 94 Try.func29 rfl rfl rfl (fun w0 => ?_)
  refine w_seq ?_
  refine w_region ?_
  refine o_box rfl rfl rfl (fun b1 => ?_)
  refine o_box rfl rfl rfl (fun b2 => ?_)
  refine o_y (y_assign rfl) rfl rfl ?_
  refine wl_nil ?_
  refine e_seq ?_
  refine w_seq ?_
  refine w_seq ?_
  refine w_region ?_
  refine o_y (y_field fa_50_0 rfl) rfl rfl ?_
  refine o_y (y_loadr 1 ty_25 rfl rfl rfl) rfl rfl ?_
  refine o_y (y_field fa_50_0 rfl) rfl rfl ?_
  refine o_y (y_loadr 0 ty_25 rfl rfl rfl) rfl rfl ?_
  refine o_y (y_neqs rfl rfl) rfl rfl ?_
  refine wl_splitp (t := 11) rfl (fun h1_4 => ?_) (fun h1_4 => ?_)
  · skip
    refine o_y (y_move rfl) rfl rfl ?_
    refine wl_gno rfl rfl rfl rfl ?_
    refine wl_gno rfl rfl rfl rfl ?_
    refine wl_gno rfl rfl rfl rfl ?_
    refine wl_gno rfl rfl rfl rfl ?_
    refine wl_gno rfl rfl rfl rfl ?_
    refine o_y (y_pick_t rfl rfl) rfl rfl ?_
    refine o_y (y_move rfl) rfl rfl ?_
    refine wl_gno rfl rfl rfl rfl ?_
    refine wl_gno rfl rfl rfl rfl ?_
    refine wl_gno rfl rfl rfl rfl ?_
    refine wl_gno rfl rfl rfl rfl ?_
    refine wl_gno rfl rfl rfl rfl ?_
    refine o_y (y_pick_t rfl rfl) rfl rfl ?_
    refine o_y (y_move rfl) rfl rfl ?_
    refine wl_gno rfl rfl rfl rfl ?_
    refine wl_gno rfl rfl rfl rfl ?_
    refine wl_gno rfl rfl rfl rfl ?_
    refine wl_gno rfl rfl rfl rfl ?_
    refine wl_gno rfl rfl rfl rfl ?_
    refine o_y (y_pick_t rfl rfl) rfl rfl ?_
    refine o_y (y_move rfl) rfl rfl ?_
    refine wl_gno rfl rfl rfl rfl ?_
    refine wl_gno rfl rfl rfl rfl ?_
    refine wl_gno rfl rfl rfl rfl ?_
    refine wl_gno rfl rfl rfl rfl ?_
    refine wl_gno rfl rfl rfl rfl ?_
    refine o_y (y_pick_t rfl rfl) rfl rfl ?_
    refine o_y (y_move rfl) rfl rfl ?_
    refine wl_gno rfl rfl rfl rfl ?_
    refine wl_gno rfl rfl rfl rfl ?_
    refine wl_gno rfl rfl rfl rfl ?_
    refine wl_gno rfl rfl rfl rfl ?_
    refine wl_gno rfl rfl rfl rfl ?_
    refine wl_gno rfl rfl rfl rfl ?_
    refine wl_gno rfl rfl rfl rfl ?_
    refine o_y (y_pick_t rfl rfl) rfl rfl ?_
    refine o_y (y_move rfl) rfl rfl ?_
    refine wl_gno rfl rfl rfl rfl ?_
    refine wl_gno rfl rfl rfl rfl ?_
    refine wl_gno rfl rfl rfl rfl ?_
    refine wl_gno rfl rfl rfl rfl ?_
    refine wl_gno rfl rfl rfl rfl ?_
    refine wl_gno rfl rfl rfl rfl ?_
    refine wl_gno rfl rfl rfl rfl ?_
    refine o_y (y_pick_t rfl rfl) rfl rfl ?_
    refine wl_nil ?_
    refine e_seq ?_
    refine w_cond_t rfl ?_
    refine w_seq ?_
    refine w_region ?_
    refine o_y (y_assign rfl) rfl rfl ?_
    refine wl_nil ?_
    refine e_seq ?_
    refine w_ret ?_
    refine e_seq_ret ?_
    refine e_ret (ts := [4]) rfl rfl rfl (fun w hw => ?_)
    refine ⟨(), ?_, hw.base, (hw.weak (List.nil_sublist _) (fun s hs => hs)).toNews⟩
    show Ending.returned (.bool _) = _
    congr 2
    first
      | (have hP := hP
         have he : e = f := by
           cases e; cases f
           simp_all
         rw [decide_eq_true he]
         done)
      | (have hne : e ≠ f := fun h => by
           subst h
           exact h11_10 rfl
         rw [decide_eq_false hne]
         done)
      | (have hne : e ≠ f := fun h => by
           subst h
           exact h6_10 rfl
         rw [decide_eq_false hne]
         done)
      | (have hne : e ≠ f := fun h => by
           subst h
           simp_all
         rw [decide_eq_false hne]
         done)
      | (trace_state; fail)
  · skip
    refine o_y (y_move rfl) rfl rfl ?_
    refine wl_gyes rfl rfl ?_
    refine o_y (y_field fa_50_1 rfl) rfl rfl ?_
    refine wl_gyes rfl rfl ?_
    refine o_y (y_loadr 1 ty_3 rfl rfl rfl) rfl rfl ?_
    refine wl_gyes rfl rfl ?_
    refine o_y (y_field fa_50_1 rfl) rfl rfl ?_
    refine wl_gyes rfl rfl ?_
    refine o_y (y_loadr 0 ty_3 rfl rfl rfl) rfl rfl ?_
    refine wl_gyes rfl rfl ?_
    refine o_y (y_neq rfl rfl) rfl rfl ?_
    refine wl_splitp (t := 17) rfl (fun h1_10 => ?_) (fun h1_10 => ?_)
    · skip
      refine o_y (y_pick_f rfl rfl) rfl rfl ?_
      refine o_y (y_move rfl) rfl rfl ?_
      refine wl_gno rfl rfl rfl rfl ?_
      refine wl_gno rfl rfl rfl rfl ?_
      refine wl_gno rfl rfl rfl rfl ?_
      refine wl_gno rfl rfl rfl rfl ?_
      refine wl_gno rfl rfl rfl rfl ?_
      refine o_y (y_pick_t rfl rfl) rfl rfl ?_
      refine o_y (y_move rfl) rfl rfl ?_
      refine wl_gno rfl rfl rfl rfl ?_
      refine wl_gno rfl rfl rfl rfl ?_
      refine wl_gno rfl rfl rfl rfl ?_
      refine wl_gno rfl rfl rfl rfl ?_
      refine wl_gno rfl rfl rfl rfl ?_
      refine o_y (y_pick_t rfl rfl) rfl rfl ?_
      refine o_y (y_move rfl) rfl rfl ?_
      refine wl_gno rfl rfl rfl rfl ?_
      refine wl_gno rfl rfl rfl rfl ?_
      refine wl_gno rfl rfl rfl rfl ?_
      refine wl_gno rfl rfl rfl rfl ?_
      refine wl_gno rfl rfl rfl rfl ?_
      refine o_y (y_pick_t rfl rfl) rfl rfl ?_
      refine o_y (y_move rfl) rfl rfl ?_
      refine wl_gno rfl rfl rfl rfl ?_
      refine wl_gno rfl rfl rfl rfl ?_
      refine wl_gno rfl rfl rfl rfl ?_
      refine wl_gno rfl rfl rfl rfl ?_
      refine wl_gno rfl rfl rfl rfl ?_
      refine wl_gno rfl rfl rfl rfl ?_
      refine wl_gno rfl rfl rfl rfl ?_
      refine o_y (y_pick_t rfl rfl) rfl rfl ?_
      refine o_y (y_move rfl) rfl rfl ?_
      refine wl_gno rfl rfl rfl rfl ?_
      refine wl_gno rfl rfl rfl rfl ?_
      refine wl_gno rfl rfl rfl rfl ?_
      refine wl_gno rfl rfl rfl rfl ?_
      refine wl_gno rfl rfl rfl rfl ?_
      refine wl_gno rfl rfl rfl rfl ?_
      refine wl_gno rfl rfl rfl rfl ?_
      refine o_y (y_pick_t rfl rfl) rfl rfl ?_
      refine wl_nil ?_
      refine e_seq ?_
      refine w_cond_t rfl ?_
      refine w_seq ?_
      refine w_region ?_
      refine o_y (y_assign rfl) rfl rfl ?_
      refine wl_nil ?_
      refine e_seq ?_
      refine w_ret ?_
      refine e_seq_ret ?_
      refine e_ret (ts := [4]) rfl rfl rfl (fun w hw => ?_)
      refine ⟨(), ?_, hw.base, (hw.weak (List.nil_sublist _) (fun s hs => hs)).toNews⟩
      show Ending.returned (.bool _) = _
      congr 2
      first
        | (have hP := hP
           have he : e = f := by
             cases e; cases f
             simp_all
           rw [decide_eq_true he]
           done)
        | (have hne : e ≠ f := fun h => by
             subst h
             exact h11_10 rfl
           rw [decide_eq_false hne]
           done)
        | (have hne : e ≠ f := fun h => by
             subst h
             exact h6_10 rfl
           rw [decide_eq_false hne]
           done)
        | (have hne : e ≠ f := fun h => by
             subst h
             simp_all
           rw [decide_eq_false hne]
           done)
        | (trace_state; fail)
    · skip
      refine o_y (y_pick_f rfl rfl) rfl rfl ?_
      refine o_y (y_move rfl) rfl rfl ?_
      refine wl_gyes rfl rfl ?_
      refine o_y (y_field fa_50_2 rfl) rfl rfl ?_
      refine wl_gyes rfl rfl ?_
      refine o_y (y_loadr 1 ty_9 rfl rfl rfl) rfl rfl ?_
      refine wl_gyes rfl rfl ?_
      refine o_y (y_field fa_50_2 rfl) rfl rfl ?_
      refine wl_gyes rfl rfl ?_
      refine o_y (y_loadr 0 ty_9 rfl rfl rfl) rfl rfl ?_
      refine wl_gyes rfl rfl ?_
      refine o_y (y_neqs rfl rfl) rfl rfl ?_
      refine wl_splitp (t := 24) rfl (fun h1_17 => ?_) (fun h1_17 => ?_)
      · skip
        refine o_y (y_pick_f rfl rfl) rfl rfl ?_
        refine o_y (y_move rfl) rfl rfl ?_
        refine wl_gno rfl rfl rfl rfl ?_
        refine wl_gno rfl rfl rfl rfl ?_
        refine wl_gno rfl rfl rfl rfl ?_
        refine wl_gno rfl rfl rfl rfl ?_
        refine wl_gno rfl rfl rfl rfl ?_
        refine o_y (y_pick_t rfl rfl) rfl rfl ?_
        refine o_y (y_move rfl) rfl rfl ?_
        refine wl_gno rfl rfl rfl rfl ?_
        refine wl_gno rfl rfl rfl rfl ?_
        refine wl_gno rfl rfl rfl rfl ?_
        refine wl_gno rfl rfl rfl rfl ?_
        refine wl_gno rfl rfl rfl rfl ?_
        refine o_y (y_pick_t rfl rfl) rfl rfl ?_
        refine o_y (y_move rfl) rfl rfl ?_
        refine wl_gno rfl rfl rfl rfl ?_
        refine wl_gno rfl rfl rfl rfl ?_
        refine wl_gno rfl rfl rfl rfl ?_
        refine wl_gno rfl rfl rfl rfl ?_
        refine wl_gno rfl rfl rfl rfl ?_
        refine wl_gno rfl rfl rfl rfl ?_
        refine wl_gno rfl rfl rfl rfl ?_
        refine o_y (y_pick_t rfl rfl) rfl rfl ?_
        refine o_y (y_move rfl) rfl rfl ?_
        refine wl_gno rfl rfl rfl rfl ?_
        refine wl_gno rfl rfl rfl rfl ?_
        refine wl_gno rfl rfl rfl rfl ?_
        refine wl_gno rfl rfl rfl rfl ?_
        refine wl_gno rfl rfl rfl rfl ?_
        refine wl_gno rfl rfl rfl rfl ?_
        refine wl_gno rfl rfl rfl rfl ?_
        refine o_y (y_pick_t rfl rfl) rfl rfl ?_
        refine wl_nil ?_
        refine e_seq ?_
        refine w_cond_t rfl ?_
        refine w_seq ?_
        refine w_region ?_
        refine o_y (y_assign rfl) rfl rfl ?_
        refine wl_nil ?_
        refine e_seq ?_
        refine w_ret ?_
        refine e_seq_ret ?_
        refine e_ret (ts := [4]) rfl rfl rfl (fun w hw => ?_)
        refine ⟨(), ?_, hw.base, (hw.weak (List.nil_sublist _) (fun s hs => hs)).toNews⟩
        show Ending.returned (.bool _) = _
        congr 2
        first
          | (have hP := hP
             have he : e = f := by
               cases e; cases f
               simp_all
             rw [decide_eq_true he]
             done)
          | (have hne : e ≠ f := fun h => by
               subst h
               exact h11_10 rfl
             rw [decide_eq_false hne]
             done)
          | (have hne : e ≠ f := fun h => by
               subst h
               exact h6_10 rfl
             rw [decide_eq_false hne]
             done)
          | (have hne : e ≠ f := fun h => by
               subst h
               simp_all
             rw [decide_eq_false hne]
             done)
          | (trace_state; fail)
      · skip
        refine o_y (y_pick_f rfl rfl) rfl rfl ?_
        refine o_y (y_move rfl) rfl rfl ?_
        refine wl_gyes rfl rfl ?_
        refine o_y (y_field fa_50_4 rfl) rfl rfl ?_
        refine wl_gyes rfl rfl ?_
        refine o_y (y_loadr 1 ty_25 rfl rfl rfl) rfl rfl ?_
        refine wl_gyes rfl rfl ?_
        refine o_y (y_field fa_50_4 rfl) rfl rfl ?_
        refine wl_gyes rfl rfl ?_
        refine o_y (y_loadr 0 ty_25 rfl rfl rfl) rfl rfl ?_
        refine wl_gyes rfl rfl ?_
        refine o_y (y_neqs rfl rfl) rfl rfl ?_
        refine wl_splitp (t := 31) rfl (fun h1_24 => ?_) (fun h1_24 => ?_)
        · skip
          refine o_y (y_pick_f rfl rfl) rfl rfl ?_
          refine o_y (y_move rfl) rfl rfl ?_
          refine wl_gno rfl rfl rfl rfl ?_
          refine wl_gno rfl rfl rfl rfl ?_
          refine wl_gno rfl rfl rfl rfl ?_
          refine wl_gno rfl rfl rfl rfl ?_
          refine wl_gno rfl rfl rfl rfl ?_
          refine o_y (y_pick_t rfl rfl) rfl rfl ?_
          refine o_y (y_move rfl) rfl rfl ?_
          refine wl_gno rfl rfl rfl rfl ?_
          refine wl_gno rfl rfl rfl rfl ?_
          refine wl_gno rfl rfl rfl rfl ?_
          refine wl_gno rfl rfl rfl rfl ?_
          refine wl_gno rfl rfl rfl rfl ?_
          refine wl_gno rfl rfl rfl rfl ?_
          refine wl_gno rfl rfl rfl rfl ?_
          refine o_y (y_pick_t rfl rfl) rfl rfl ?_
          refine o_y (y_move rfl) rfl rfl ?_
          refine wl_gno rfl rfl rfl rfl ?_
          refine wl_gno rfl rfl rfl rfl ?_
          refine wl_gno rfl rfl rfl rfl ?_
          refine wl_gno rfl rfl rfl rfl ?_
          refine wl_gno rfl rfl rfl rfl ?_
          refine wl_gno rfl rfl rfl rfl ?_
          refine wl_gno rfl rfl rfl rfl ?_
          refine o_y (y_pick_t rfl rfl) rfl rfl ?_
          refine wl_nil ?_
          refine e_seq ?_
          refine w_cond_t rfl ?_
          refine w_seq ?_
          refine w_region ?_
          refine o_y (y_assign rfl) rfl rfl ?_
          refine wl_nil ?_
          refine e_seq ?_
          refine w_ret ?_
          refine e_seq_ret ?_
          refine e_ret (ts := [4]) rfl rfl rfl (fun w hw => ?_)
          refine ⟨(), ?_, hw.base, (hw.weak (List.nil_sublist _) (fun s hs => hs)).toNews⟩
          show Ending.returned (.bool _) = _
          congr 2
          first
            | (have hP := hP
               have he : e = f := by
                 cases e; cases f
                 simp_all
               rw [decide_eq_true he]
               done)
            | (have hne : e ≠ f := fun h => by
                 subst h
                 exact h11_10 rfl
               rw [decide_eq_false hne]
               done)
            | (have hne : e ≠ f := fun h => by
                 subst h
                 exact h6_10 rfl
               rw [decide_eq_false hne]
               done)
            | (have hne : e ≠ f := fun h => by
                 subst h
                 simp_all
               rw [decide_eq_false hne]
               done)
            | (trace_state; fail)
        · skip
          refine o_y (y_pick_f rfl rfl) rfl rfl ?_
          refine o_y (y_move rfl) rfl rfl ?_
          refine wl_gyes rfl rfl ?_
          refine o_y (y_field fa_50_6 rfl) rfl rfl ?_
          refine wl_gyes rfl rfl ?_
          refine o_y (y_loadr 1 ty_48 rfl rfl rfl) rfl rfl ?_
          refine wl_gyes rfl rfl ?_
          refine o_y (y_field fa_50_6 rfl) rfl rfl ?_
          refine wl_gyes rfl rfl ?_
          refine o_y (y_loadr 0 ty_48 rfl rfl rfl) rfl rfl ?_
          refine wl_gyes rfl rfl ?_
          refine o_y (y_neq rfl rfl) rfl rfl ?_
          refine wl_splitp (t := 38) rfl (fun h1_31 => ?_) (fun h1_31 => ?_)
          · skip
            refine o_y (y_pick_f rfl rfl) rfl rfl ?_
            refine o_y (y_move rfl) rfl rfl ?_
            refine wl_gno rfl rfl rfl rfl ?_
            refine wl_gno rfl rfl rfl rfl ?_
            refine wl_gno rfl rfl rfl rfl ?_
            refine wl_gno rfl rfl rfl rfl ?_
            refine wl_gno rfl rfl rfl rfl ?_
            refine wl_gno rfl rfl rfl rfl ?_
            refine wl_gno rfl rfl rfl rfl ?_
            refine o_y (y_pick_t rfl rfl) rfl rfl ?_
            refine o_y (y_move rfl) rfl rfl ?_
            refine wl_gno rfl rfl rfl rfl ?_
            refine wl_gno rfl rfl rfl rfl ?_
            refine wl_gno rfl rfl rfl rfl ?_
            refine wl_gno rfl rfl rfl rfl ?_
            refine wl_gno rfl rfl rfl rfl ?_
            refine wl_gno rfl rfl rfl rfl ?_
            refine wl_gno rfl rfl rfl rfl ?_
            refine o_y (y_pick_t rfl rfl) rfl rfl ?_
            refine wl_nil ?_
            refine e_seq ?_
            refine w_cond_t rfl ?_
            refine w_seq ?_
            refine w_region ?_
            refine o_y (y_assign rfl) rfl rfl ?_
            refine wl_nil ?_
            refine e_seq ?_
            refine w_ret ?_
            refine e_seq_ret ?_
            refine e_ret (ts := [4]) rfl rfl rfl (fun w hw => ?_)
            refine ⟨(), ?_, hw.base, (hw.weak (List.nil_sublist _) (fun s hs => hs)).toNews⟩
            show Ending.returned (.bool _) = _
            congr 2
            first
              | (have hP := hP
                 have he : e = f := by
                   cases e; cases f
                   simp_all
                 rw [decide_eq_true he]
                 done)
              | (have hne : e ≠ f := fun h => by
                   subst h
                   exact h11_10 rfl
                 rw [decide_eq_false hne]
                 done)
              | (have hne : e ≠ f := fun h => by
                   subst h
                   exact h6_10 rfl
                 rw [decide_eq_false hne]
                 done)
              | (have hne : e ≠ f := fun h => by
                   subst h
                   simp_all
                 rw [decide_eq_false hne]
                 done)
              | (trace_state; fail)
          · skip
            refine o_y (y_pick_f rfl rfl) rfl rfl ?_
            refine o_y (y_move rfl) rfl rfl ?_
            refine wl_gyes rfl rfl ?_
            refine o_y (y_field fa_50_3 rfl) rfl rfl ?_
            refine wl_gyes rfl rfl ?_
            refine o_y (y_loadr 1 ty_46 rfl rfl rfl) rfl rfl ?_
            refine wl_gyes rfl rfl ?_
            refine o_y (y_lenl Try.underlying46 rfl) rfl rfl ?_
            refine wl_gyes rfl rfl ?_
            refine o_y (y_field fa_50_3 rfl) rfl rfl ?_
            refine wl_gyes rfl rfl ?_
            refine o_y (y_loadr 0 ty_46 rfl rfl rfl) rfl rfl ?_
            refine wl_gyes rfl rfl ?_
            refine o_y (y_lenl Try.underlying46 rfl) rfl rfl ?_
            refine wl_gyes rfl rfl ?_
            refine o_y (y_neq rfl rfl) rfl rfl ?_
            refine wl_splitp (t := 47) rfl (fun h1_40 => ?_) (fun h1_40 => ?_)
            · skip
              refine o_y (y_pick_f rfl rfl) rfl rfl ?_
              refine o_y (y_move rfl) rfl rfl ?_
              refine wl_gno rfl rfl rfl rfl ?_
              refine wl_gno rfl rfl rfl rfl ?_
              refine wl_gno rfl rfl rfl rfl ?_
              refine wl_gno rfl rfl rfl rfl ?_
              refine wl_gno rfl rfl rfl rfl ?_
              refine wl_gno rfl rfl rfl rfl ?_
              refine wl_gno rfl rfl rfl rfl ?_
              refine o_y (y_pick_t rfl rfl) rfl rfl ?_
              refine wl_nil ?_
              refine e_seq ?_
              refine w_cond_t rfl ?_
              refine w_seq ?_
              refine w_region ?_
              refine o_y (y_assign rfl) rfl rfl ?_
              refine wl_nil ?_
              refine e_seq ?_
              refine w_ret ?_
              refine e_seq_ret ?_
              refine e_ret (ts := [4]) rfl rfl rfl (fun w hw => ?_)
              refine ⟨(), ?_, hw.base, (hw.weak (List.nil_sublist _) (fun s hs => hs)).toNews⟩
              show Ending.returned (.bool _) = _
              congr 2
              first
                | (have hP := hP
                   have he : e = f := by
                     cases e; cases f
                     simp_all
                   rw [decide_eq_true he]
                   done)
                | (have hne : e ≠ f := fun h => by
                     subst h
                     exact h11_10 rfl
                   rw [decide_eq_false hne]
                   done)
                | (have hne : e ≠ f := fun h => by
                     subst h
                     exact h6_10 rfl
                   rw [decide_eq_false hne]
                   done)
                | (have hne : e ≠ f := fun h => by
                     subst h
                     simp_all
                   rw [decide_eq_false hne]
                   done)
                | (trace_state; fail)
            · skip
              refine o_y (y_pick_f rfl rfl) rfl rfl ?_
              refine o_y (y_move rfl) rfl rfl ?_
              refine wl_gyes rfl rfl ?_
              refine o_y (y_field fa_50_5 rfl) rfl rfl ?_
              refine wl_gyes rfl rfl ?_
              refine o_y (y_loadr 1 ty_47 rfl rfl rfl) rfl rfl ?_
              refine wl_gyes rfl rfl ?_
              refine o_y (y_lenl Try.underlying47 rfl) rfl rfl ?_
              refine wl_gyes rfl rfl ?_
              refine o_y (y_field fa_50_5 rfl) rfl rfl ?_
              refine wl_gyes rfl rfl ?_
              refine o_y (y_loadr 0 ty_47 rfl rfl rfl) rfl rfl ?_
              refine wl_gyes rfl rfl ?_
              refine o_y (y_lenl Try.underlying47 rfl) rfl rfl ?_
              refine wl_gyes rfl rfl ?_
              refine o_y (y_neq rfl rfl) rfl rfl ?_
              refine wl_splitp (t := 56) rfl (fun h1_49 => ?_) (fun h1_49 => ?_)
              · skip
                refine o_y (y_pick_f rfl rfl) rfl rfl ?_
                refine wl_nil ?_
                refine e_seq ?_
                refine w_cond_t rfl ?_
                refine w_seq ?_
                refine w_region ?_
                refine o_y (y_assign rfl) rfl rfl ?_
                refine wl_nil ?_
                refine e_seq ?_
                refine w_ret ?_
                refine e_seq_ret ?_
                refine e_ret (ts := [4]) rfl rfl rfl (fun w hw => ?_)
                refine ⟨(), ?_, hw.base, (hw.weak (List.nil_sublist _) (fun s hs => hs)).toNews⟩
                show Ending.returned (.bool _) = _
                congr 2
                first
                  | (have hP := hP
                     have he : e = f := by
                       cases e; cases f
                       simp_all
                     rw [decide_eq_true he]
                     done)
                  | (have hne : e ≠ f := fun h => by
                       subst h
                       exact h11_10 rfl
                     rw [decide_eq_false hne]
                     done)
                  | (have hne : e ≠ f := fun h => by
                       subst h
                       exact h6_10 rfl
                     rw [decide_eq_false hne]
                     done)
                  | (have hne : e ≠ f := fun h => by
                       subst h
                       simp_all
                     rw [decide_eq_false hne]
                     done)
                  | (trace_state; fail)
              · skip
                refine o_y (y_pick_f rfl rfl) rfl rfl ?_
                refine wl_nil ?_
                refine e_seq ?_
                refine w_cond_f rfl ?_
                refine w_skip ?_
                refine e_seq ?_
                refine w_seq ?_
                refine w_seq ?_
                refine w_region ?_
                refine o_y (y_assign rfl) rfl rfl ?_
                refine wl_nil ?_
                refine e_seq ?_
                refine w_block ?_
                refine w_loop0 (σ := Nat) [4, 5, 58, 59, 60, 61, 62, 63, 64, 65, 66, 67, 68, 69, 70, 71, 72, 73, 74, 75] (fun k => k ≤ e.addrs.length ∧ e.addrs.take k = f.addrs.take k) (fun k => e.addrs.length - k) (fun k => [(5, .int .i64 k)]) (0) ?_ ⟨rfl, trivial⟩ (fun k hI => ?_)
                · exact ⟨Nat.zero_le _, rfl⟩
                refine w_seq ?_
                refine w_seq ?_
                refine w_region ?_
                refine o_y (y_move rfl) rfl rfl ?_
                refine o_y (y_field fa_50_3 rfl) rfl rfl ?_
                refine o_y (y_loadr 1 ty_46 rfl rfl rfl) rfl rfl ?_
                refine o_y (y_lenl Try.underlying46 rfl) rfl rfl ?_
                refine o_y (y_lss rfl rfl) rfl rfl ?_
                refine wl_splitp (t := 62) rfl (fun h4_4 => ?_) (fun h4_4 => ?_)
                · skip
                  refine wl_nil ?_
                  refine e_seq ?_
                  refine w_cond_t rfl ?_
                  refine w_skip ?_
                  refine e_seq ?_
                  refine w_seq ?_
                  refine w_block ?_
                  refine w_seq ?_
                  refine w_draw 11 rfl mixed ?_
                  refine a_take (i := 0) rfl wanted_none (y_field fa_50_3 rfl) (fun w h => h) (fun w h => h) rfl (pk_seq (pk_blk (pk_seq (pk_loop (pk_blk (pk_seq pk_fn)))))) (by kernel_rfl) rfl ?_
                  refine a_take (i := 1) rfl wanted_none (y_loadr 1 ty_46 rfl rfl rfl) (fun w h => h) (fun w h => h) rfl (pk_seq (pk_blk (pk_seq (pk_loop (pk_blk (pk_seq pk_fn)))))) (by kernel_rfl) rfl ?_
                  refine a_take (i := 2) rfl wanted_none (y_move rfl) (fun w h => h) (fun w h => h) rfl (pk_seq (pk_blk (pk_seq (pk_loop (pk_blk (pk_seq pk_fn)))))) (by kernel_rfl) rfl ?_
                  refine a_take (i := 3) rfl wanted_none (y_ixm  Try.underlying46 ty_66 rfl rfl (rs_S 0 rfl) rfl (by omega)) (fun w h => h) (fun w h => h) rfl (pk_seq (pk_blk (pk_seq (pk_loop (pk_blk (pk_seq pk_fn)))))) (by kernel_rfl) rfl ?_
                  refine a_take (i := 4) rfl wanted_none (y_ldsm0 enc_ad ad0 ty_66 rfl (rs_S 0 rfl) (by omega) rfl rfl rfl) (fun w h => h) (fun w h => h) rfl (pk_seq (pk_blk (pk_seq (pk_loop (pk_blk (pk_seq pk_fn)))))) (by kernel_rfl) rfl ?_
                  refine a_take (i := 5) rfl wanted_none (y_field fa_50_3 rfl) (fun w h => h) (fun w h => h) rfl (pk_seq (pk_blk (pk_seq (pk_loop (pk_blk (pk_seq pk_fn)))))) (by kernel_rfl) rfl ?_
                  refine a_take (i := 6) rfl wanted_none (y_loadr 0 ty_46 rfl rfl rfl) (fun w h => h) (fun w h => h) rfl (pk_seq (pk_blk (pk_seq (pk_loop (pk_blk (pk_seq pk_fn)))))) (by kernel_rfl) rfl ?_
                  refine a_take (i := 7) rfl wanted_none (y_move rfl) (fun w h => h) (fun w h => h) rfl (pk_seq (pk_blk (pk_seq (pk_loop (pk_blk (pk_seq pk_fn)))))) (by kernel_rfl) rfl ?_
                  refine a_take (i := 8) rfl wanted_none (y_ixm  Try.underlying46 ty_66 rfl rfl (rs_S 2 rfl) rfl (by omega)) (fun w h => h) (fun w h => h) rfl (pk_seq (pk_blk (pk_seq (pk_loop (pk_blk (pk_seq pk_fn)))))) (by kernel_rfl) rfl ?_
                  refine a_take (i := 9) rfl wanted_none (y_ldsm0 enc_ad ad0 ty_66 rfl (rs_S 2 rfl) (by omega) rfl rfl rfl) (fun w h => h) (fun w h => h) rfl (pk_seq (pk_blk (pk_seq (pk_loop (pk_blk (pk_seq pk_fn)))))) (by kernel_rfl) rfl ?_
                  refine a_take (i := 10) rfl wanted_none (y_nestd (by kernel_rfl) rfl rfl (eqd_ad _ _) rfl) (fun w h => h) (fun w h => h) rfl (pk_seq (pk_blk (pk_seq (pk_loop (pk_blk (pk_seq pk_fn)))))) (by kernel_rfl) rfl ?_
                  refine wa_splitp (t := 75) rfl (fun h6_10 => ?_) (fun h6_10 => ?_)
                  · skip
                    refine a_done (by kernel_rfl) ?_
                    refine e_seq ?_
                    refine w_cond_t rfl ?_
                    refine w_seq ?_
                    refine w_region ?_
                    refine o_y (y_assign rfl) rfl rfl ?_
                    refine wl_nil ?_
                    refine e_seq ?_
                    refine w_ret ?_
                    refine e_blk_ret ?_
                    refine e_seq_ret ?_
                    refine e_loop_ret ?_
                    refine e_blk_ret ?_
                    refine e_seq_ret ?_
                    refine e_ret (ts := [4]) rfl rfl rfl (fun w hw => ?_)
                    refine ⟨(), ?_, hw.base, (hw.weak (List.nil_sublist _) (fun s hs => hs)).toNews⟩
                    show Ending.returned (.bool _) = _
                    congr 2
                    first
                      | (have hP := hP
                         have he : e = f := by
                           cases e; cases f
                           simp_all
                         rw [decide_eq_true he]
                         done)
                      | (have hne : e ≠ f := fun h => by
                           subst h
                           exact h11_10 rfl
                         rw [decide_eq_false hne]
                         done)
                      | (have hne : e ≠ f := fun h => by
                           subst h
                           exact h6_10 rfl
                         rw [decide_eq_false hne]
                         done)
                      | (have hne : e ≠ f := fun h => by
                           subst h
                           simp_all
                         rw [decide_eq_false hne]
                         done)
                      | (trace_state; fail)
                  · skip
                    refine a_done (by kernel_rfl) ?_
                    refine e_seq ?_
                    refine w_cond_f rfl ?_
                    refine w_skip ?_
                    refine e_blk ?_
                    refine e_seq ?_
                    refine w_region ?_
                    refine o_y (y_move rfl) rfl rfl ?_
                    refine o_y (y_addi rfl rfl (by omega) (by omega)) rfl rfl ?_
                    refine o_y (y_assign rfl) rfl rfl ?_
                    refine wl_nil ?_
                    refine e_back (k + 1) ?_ ?_ ⟨rfl, trivial⟩ (by repeat (first | exact trivial | refine ⟨rfl, ?_⟩)) (fun w h => h)
                    · exact ⟨by omega, take_eq_succ ad0 (by omega) (by omega) hI.2 (by simpa using h6_10)⟩
                    · omega
                · skip
                  refine wl_nil ?_
                  refine e_seq ?_
                  refine w_cond_f rfl ?_
                  refine w_exit ?_
                  refine e_seq_exit ?_
                  refine e_loop_exit ?_
                  refine e_blk_hit ?_
                  refine e_seq ?_
                  refine w_seq ?_
                  refine w_seq ?_
                  have hA : e.addrs = f.addrs := by
                    have := hI.2
                    rw [show k = e.addrs.length by omega, List.take_length, List.take_of_length_le (by omega)] at this
                    exact this
                  refine w_region ?_
                  refine o_y (y_assign rfl) rfl rfl ?_
                  refine wl_nil ?_
                  refine e_seq ?_
                  refine w_block ?_
                  refine w_loop0 (σ := Nat) [4, 6, 76, 77, 78, 79, 80, 81, 82, 83, 84, 85, 86, 87, 88, 89, 90, 91, 92, 93] (fun j => j ≤ e.ports.length ∧ e.ports.take j = f.ports.take j) (fun j => e.ports.length - j) (fun j => [(6, .int .i64 j)]) (0) ?_ ⟨rfl, trivial⟩ (fun j hI => ?_)
                  · exact ⟨Nat.zero_le _, rfl⟩
                  refine w_seq ?_
                  refine w_seq ?_
                  refine w_region ?_
                  refine o_y (y_move rfl) rfl rfl ?_
                  refine o_y (y_field fa_50_5 rfl) rfl rfl ?_
                  refine o_y (y_loadr 1 ty_47 rfl rfl rfl) rfl rfl ?_
                  refine o_y (y_lenl Try.underlying47 rfl) rfl rfl ?_
                  refine o_y (y_lss rfl rfl) rfl rfl ?_
                  refine wl_splitp (t := 80) rfl (fun h9_4 => ?_) (fun h9_4 => ?_)
                  · skip
                    refine wl_nil ?_
                    refine e_seq ?_
                    refine w_cond_t rfl ?_
                    refine w_skip ?_
                    refine e_seq ?_
                    refine w_seq ?_
                    refine w_block ?_
                    refine w_seq ?_
                    refine w_draw 11 rfl mixed ?_
                    refine a_take (i := 0) rfl wanted_none (y_field fa_50_5 rfl) (fun w h => h) (fun w h => h) rfl (pk_seq (pk_blk (pk_seq (pk_loop (pk_blk (pk_seq pk_fn)))))) (by kernel_rfl) rfl ?_
                    refine a_take (i := 1) rfl wanted_none (y_loadr 1 ty_47 rfl rfl rfl) (fun w h => h) (fun w h => h) rfl (pk_seq (pk_blk (pk_seq (pk_loop (pk_blk (pk_seq pk_fn)))))) (by kernel_rfl) rfl ?_
                    refine a_take (i := 2) rfl wanted_none (y_move rfl) (fun w h => h) (fun w h => h) rfl (pk_seq (pk_blk (pk_seq (pk_loop (pk_blk (pk_seq pk_fn)))))) (by kernel_rfl) rfl ?_
                    refine a_take (i := 3) rfl wanted_none (y_ixm  Try.underlying47 ty_3 rfl rfl (rs_S 1 rfl) rfl (by omega)) (fun w h => h) (fun w h => h) rfl (pk_seq (pk_blk (pk_seq (pk_loop (pk_blk (pk_seq pk_fn)))))) (by kernel_rfl) rfl ?_
                    refine a_take (i := 4) rfl wanted_none (y_ldm0 enc_i (0 : Int) ty_3 rfl (rs_S 1 rfl) (by omega) rfl rfl) (fun w h => h) (fun w h => h) rfl (pk_seq (pk_blk (pk_seq (pk_loop (pk_blk (pk_seq pk_fn)))))) (by kernel_rfl) rfl ?_
                    refine a_take (i := 5) rfl wanted_none (y_field fa_50_5 rfl) (fun w h => h) (fun w h => h) rfl (pk_seq (pk_blk (pk_seq (pk_loop (pk_blk (pk_seq pk_fn)))))) (by kernel_rfl) rfl ?_
                    refine a_take (i := 6) rfl wanted_none (y_loadr 0 ty_47 rfl rfl rfl) (fun w h => h) (fun w h => h) rfl (pk_seq (pk_blk (pk_seq (pk_loop (pk_blk (pk_seq pk_fn)))))) (by kernel_rfl) rfl ?_
                    refine a_take (i := 7) rfl wanted_none (y_move rfl) (fun w h => h) (fun w h => h) rfl (pk_seq (pk_blk (pk_seq (pk_loop (pk_blk (pk_seq pk_fn)))))) (by kernel_rfl) rfl ?_
                    refine a_take (i := 8) rfl wanted_none (y_ixm  Try.underlying47 ty_3 rfl rfl (rs_S 3 rfl) rfl (by omega)) (fun w h => h) (fun w h => h) rfl (pk_seq (pk_blk (pk_seq (pk_loop (pk_blk (pk_seq pk_fn)))))) (by kernel_rfl) rfl ?_
                    refine a_take (i := 9) rfl wanted_none (y_ldm0 enc_i (0 : Int) ty_3 rfl (rs_S 3 rfl) (by omega) rfl rfl) (fun w h => h) (fun w h => h) rfl (pk_seq (pk_blk (pk_seq (pk_loop (pk_blk (pk_seq pk_fn)))))) (by kernel_rfl) rfl ?_
                    refine a_take (i := 10) rfl wanted_none (y_neq rfl rfl) (fun w h => h) (fun w h => h) rfl (pk_seq (pk_blk (pk_seq (pk_loop (pk_blk (pk_seq pk_fn)))))) (by kernel_rfl) rfl ?_
                    refine wa_splitp (t := 93) rfl (fun h11_10 => ?_) (fun h11_10 => ?_)
                    · skip
                      refine a_done (by kernel_rfl) ?_
                      refine e_seq ?_
                      refine w_cond_t rfl ?_
                      refine w_seq ?_
                      refine w_region ?_
                      refine o_y (y_assign rfl) rfl rfl ?_
                      refine wl_nil ?_
                      refine e_seq ?_
                      refine w_ret ?_
                      refine e_blk_ret ?_
                      refine e_seq_ret ?_
                      refine e_loop_ret ?_
                      refine e_blk_ret ?_
                      refine e_seq_ret ?_
                      refine e_ret (ts := [4]) rfl rfl rfl (fun w hw => ?_)
                      refine ⟨(), ?_, hw.base, (hw.weak (List.nil_sublist _) (fun s hs => hs)).toNews⟩
                      show Ending.returned (.bool _) = _
                      congr 2
                      first
                        | (have hP := hP
                           have he : e = f := by
                             cases e; cases f
                             simp_all
                           rw [decide_eq_true he]
                           done)
                        | (have hne : e ≠ f := fun h => by
                             subst h
                             exact h11_10 rfl
                           rw [decide_eq_false hne]
                           done)
                        | (have hne : e ≠ f := fun h => by
                             subst h
                             exact h6_10 rfl
                           rw [decide_eq_false hne]
                           done)
                        | (have hne : e ≠ f := fun h => by
                             subst h
                             simp_all
                           rw [decide_eq_false hne]
                           done)
                        | (trace_state; fail)
                    · skip
                      refine a_done (by kernel_rfl) ?_
                      refine e_seq ?_
                      refine w_cond_f rfl ?_
                      refine w_skip ?_
                      refine e_blk ?_
                      refine e_seq ?_
                      refine w_region ?_
                      refine o_y (y_move rfl) rfl rfl ?_
                      refine o_y (y_addi rfl rfl (by omega) (by omega)) rfl rfl ?_
                      refine o_y (y_assign rfl) rfl rfl ?_
                      refine wl_nil ?_
                      refine e_back (j + 1) ?_ ?_ ⟨rfl, trivial⟩ (by repeat (first | exact trivial | refine ⟨rfl, ?_⟩)) (fun w h => h)
                      · exact ⟨by omega, take_eq_succ (0 : Int) (by omega) (by omega) hI.2 (by simpa using h11_10)⟩
                      · omega
                  · skip
                    refine wl_nil ?_
                    refine e_seq ?_
                    refine w_cond_f rfl ?_
                    refine w_exit ?_
                    refine e_seq_exit ?_
                    refine e_loop_exit ?_
                    refine e_blk_hit ?_
                    refine e_seq ?_
                    refine w_seq ?_
                    have hP : e.ports = f.ports := by
                      have := hI.2
                      rw [show j = e.ports.length by omega, List.take_length, List.take_of_length_le (by omega)] at this
                      exact this
                    refine w_region ?_
                    refine o_y (y_assign rfl) rfl rfl ?_
                    refine wl_nil ?_
                    refine e_seq ?_
                    refine w_ret ?_
                    refine e_ret (ts := [4]) rfl rfl rfl (fun w hw => ?_)
                    refine ⟨(), ?_, hw.base, (hw.weak (List.nil_sublist _) (fun s hs => hs)).toNews⟩
                    show Ending.returned (.bool _) = _
                    congr 2
                    first
                      | (have hP := hP
                         have he : e = f := by
                           cases e; cases f
                           simp_all
                         rw [decide_eq_true he]
                         done)
                      | (have hne : e ≠ f := fun h => by
                           subst h
                           exact h11_10 rfl
                         rw [decide_eq_false hne]
                         done)
                      | (have hne : e ≠ f := fun h => by
                           subst h
                           exact h6_10 rfl
                         rw [decide_eq_false hne]
                         done)
                      | (have hne : e ≠ f := fun h => by
                           subst h
                           simp_all
                         rw [decide_eq_false hne]
                         done)
                      | (trace_state; fail)

end Go.Proofs.Ytckfjfnkombelaa
