/- copies of entries; the laws of folded hosts and of copies -/
import Derived.Test.YtahpppncjbgpaaaCk
namespace Go.Proofs.Ytahpppncjbgpaaa
open Go.RowKit Go.Shelf
set_option linter.unusedVariables false
set_option linter.unusedSimpArgs false

theorem ent_38 : Enters Try.prog 38 := enters_of Try.func38 (by kernel_rfl) rfl
theorem ent_41 : Enters Try.prog 41 := enters_of Try.func41 (by kernel_rfl) rfl
theorem ent_42 : Enters Try.prog 42 := enters_of Try.func42 (by kernel_rfl) rfl
theorem ent_49 : Enters Try.prog 49 := enters_of Try.func49 (by kernel_rfl) rfl
theorem ent_73 : Enters Try.prog 73 := enters_of Try.func73 (by kernel_rfl) rfl
theorem ent_74 : Enters Try.prog 74 := enters_of Try.func74 (by kernel_rfl) rfl
theorem ent_75 : Enters Try.prog 75 := enters_of Try.func75 (by kernel_rfl) rfl

theorem c_entry_Same (e : En) (A B : Option Addr) (c d : Nat) (f : En) (F G : Option Addr) (c2 d2 : Nat) (hla : e.addrs.length ≤ 1000000000000) (hlp : e.ports.length ≤ 1000000000000) : RC Try.prog 42 #[.agg (enC e A B c d).toArray, .agg (enC f F G c2 d2).toArray] [Ch.rd A 3 adC e.addrs, Ch.rd B 1 enci e.ports, Ch.rd F 3 adC f.addrs, Ch.rd G 1 enci f.ports] (α := Unit) (fun _ => .bool (decide (e = f))) (fun _ => []) := by
  refine rc_of_W (args := [.agg (enC e A B c d).toArray, .agg (enC f F G c2 d2).toArray]) 52 Try.func42 rfl rfl rfl (fun w0 => ?_)
  refine w_seq ?_
  refine w_region ?_
  refine o_box rfl rfl rfl (fun b1 => ?_)
  refine o_box rfl rfl rfl (fun b2 => ?_)
  refine o_y (y_assign rfl) rfl rfl ?_
  refine wl_nil ?_
  refine e_seq ?_
  refine w_seq ?_
  refine w_region ?_
  refine o_y (y_field fa_48_0 rfl) rfl rfl ?_
  refine o_y (y_loadr 1 ty_22 rfl rfl rfl) rfl rfl ?_
  refine o_y (y_field fa_48_0 rfl) rfl rfl ?_
  refine o_y (y_loadr 0 ty_22 rfl rfl rfl) rfl rfl ?_
  refine o_y (y_eqls rfl rfl) rfl rfl ?_
  refine wl_splitp (t := 9) rfl (fun h1_4 => ?_) (fun h1_4 => ?_)
  · skip
    refine o_y (y_move rfl) rfl rfl ?_
    refine wl_gyes rfl rfl ?_
    refine o_y (y_field fa_48_1 rfl) rfl rfl ?_
    refine wl_gyes rfl rfl ?_
    refine o_y (y_loadr 1 ty_3 rfl rfl rfl) rfl rfl ?_
    refine wl_gyes rfl rfl ?_
    refine o_y (y_field fa_48_1 rfl) rfl rfl ?_
    refine wl_gyes rfl rfl ?_
    refine o_y (y_loadr 0 ty_3 rfl rfl rfl) rfl rfl ?_
    refine wl_gyes rfl rfl ?_
    refine o_y (y_eql rfl rfl) rfl rfl ?_
    refine wl_splitp (t := 15) rfl (fun h1_10 => ?_) (fun h1_10 => ?_)
    · skip
      refine o_y (y_pick_t rfl rfl) rfl rfl ?_
      refine o_y (y_move rfl) rfl rfl ?_
      refine wl_gyes rfl rfl ?_
      refine o_y (y_field fa_48_2 rfl) rfl rfl ?_
      refine wl_gyes rfl rfl ?_
      refine o_y (y_loadr 1 ty_9 rfl rfl rfl) rfl rfl ?_
      refine wl_gyes rfl rfl ?_
      refine o_y (y_field fa_48_2 rfl) rfl rfl ?_
      refine wl_gyes rfl rfl ?_
      refine o_y (y_loadr 0 ty_9 rfl rfl rfl) rfl rfl ?_
      refine wl_gyes rfl rfl ?_
      refine o_y (y_eqls rfl rfl) rfl rfl ?_
      refine wl_splitp (t := 22) rfl (fun h1_17 => ?_) (fun h1_17 => ?_)
      · skip
        refine o_y (y_pick_t rfl rfl) rfl rfl ?_
        refine o_y (y_move rfl) rfl rfl ?_
        refine wl_gyes rfl rfl ?_
        refine o_y (y_field fa_48_4 rfl) rfl rfl ?_
        refine wl_gyes rfl rfl ?_
        refine o_y (y_loadr 1 ty_22 rfl rfl rfl) rfl rfl ?_
        refine wl_gyes rfl rfl ?_
        refine o_y (y_field fa_48_4 rfl) rfl rfl ?_
        refine wl_gyes rfl rfl ?_
        refine o_y (y_loadr 0 ty_22 rfl rfl rfl) rfl rfl ?_
        refine wl_gyes rfl rfl ?_
        refine o_y (y_eqls rfl rfl) rfl rfl ?_
        refine wl_splitp (t := 29) rfl (fun h1_24 => ?_) (fun h1_24 => ?_)
        · skip
          refine o_y (y_pick_t rfl rfl) rfl rfl ?_
          refine o_y (y_move rfl) rfl rfl ?_
          refine wl_gyes rfl rfl ?_
          refine o_y (y_field fa_48_6 rfl) rfl rfl ?_
          refine wl_gyes rfl rfl ?_
          refine o_y (y_loadr 1 ty_46 rfl rfl rfl) rfl rfl ?_
          refine wl_gyes rfl rfl ?_
          refine o_y (y_field fa_48_6 rfl) rfl rfl ?_
          refine wl_gyes rfl rfl ?_
          refine o_y (y_loadr 0 ty_46 rfl rfl rfl) rfl rfl ?_
          refine wl_gyes rfl rfl ?_
          refine o_y (y_eql rfl rfl) rfl rfl ?_
          refine wl_splitp (t := 36) rfl (fun h1_31 => ?_) (fun h1_31 => ?_)
          · skip
            refine o_y (y_pick_t rfl rfl) rfl rfl ?_
            refine o_y (y_move rfl) rfl rfl ?_
            refine wl_gyes rfl rfl ?_
            refine o_y (y_field fa_48_3 rfl) rfl rfl ?_
            refine wl_gyes rfl rfl ?_
            refine o_y (y_loadr 1 ty_45 rfl rfl rfl) rfl rfl ?_
            refine wl_gyes rfl rfl ?_
            refine o_y (y_field fa_48_3 rfl) rfl rfl ?_
            refine wl_gyes rfl rfl ?_
            refine o_y (y_loadr 0 ty_45 rfl rfl rfl) rfl rfl ?_
            refine wl_gyes rfl rfl ?_
            refine o_callq rfl ent_74 rfl (c_Equal_ad _ _ _ _ _ _ (by omega)) (fun w hw => (rd_cons (rd_S 0 rfl hw) (rd_cons (rd_S 2 rfl hw) rd_nil))) ?_
            refine wl_splitb (t := 43) rfl (fun h1_38 => ?_) (fun h1_38 => ?_)
            · skip
              refine o_y (y_pick_t rfl rfl) rfl rfl ?_
              refine o_y (y_move rfl) rfl rfl ?_
              refine wl_gyes rfl rfl ?_
              refine o_y (y_field fa_48_5 rfl) rfl rfl ?_
              refine wl_gyes rfl rfl ?_
              refine o_y (y_loadr 1 ty_34 rfl rfl rfl) rfl rfl ?_
              refine wl_gyes rfl rfl ?_
              refine o_y (y_field fa_48_5 rfl) rfl rfl ?_
              refine wl_gyes rfl rfl ?_
              refine o_y (y_loadr 0 ty_34 rfl rfl rfl) rfl rfl ?_
              refine wl_gyes rfl rfl ?_
              refine o_callq rfl ent_75 rfl (c_Equal_int _ _ _ _ _ _ (by omega)) (fun w hw => (rd_cons (rd_S 1 rfl hw) (rd_cons (rd_S 3 rfl hw) rd_nil))) ?_
              refine o_y (y_pick_t rfl rfl) rfl rfl ?_
              refine o_y (y_assign rfl) rfl rfl ?_
              refine wl_nil ?_
              refine e_seq ?_
              refine w_ret ?_
              refine e_ret (ts := [4]) rfl rfl rfl (fun w hw => ?_)
              refine ⟨(), ?_, hw.base, (hw.weak (List.nil_sublist _) (fun s hs => hs)).toNews⟩
              show Ending.returned (.bool _) = _
              congr 2
              first
                | (have hne : e ≠ f := fun h => by
                     subst h
                     simp_all
                   rw [decide_eq_false hne]
                   done)
                | (rw [decide_eq_decide]
                   cases e; cases f
                   simp_all
                   done)
                | (trace_state; fail)
            · skip
              refine o_y (y_pick_t rfl rfl) rfl rfl ?_
              refine o_y (y_move rfl) rfl rfl ?_
              refine wl_gno rfl rfl rfl rfl ?_
              refine wl_gno rfl rfl rfl rfl ?_
              refine wl_gno rfl rfl rfl rfl ?_
              refine wl_gno rfl rfl rfl rfl ?_
              refine wl_gno rfl rfl rfl rfl ?_
              refine o_y (y_pick_f rfl rfl) rfl rfl ?_
              refine o_y (y_assign rfl) rfl rfl ?_
              refine wl_nil ?_
              refine e_seq ?_
              refine w_ret ?_
              refine e_ret (ts := [4]) rfl rfl rfl (fun w hw => ?_)
              refine ⟨(), ?_, hw.base, (hw.weak (List.nil_sublist _) (fun s hs => hs)).toNews⟩
              show Ending.returned (.bool _) = _
              congr 2
              first
                | (have hne : e ≠ f := fun h => by
                     subst h
                     simp_all
                   rw [decide_eq_false hne]
                   done)
                | (rw [decide_eq_decide]
                   cases e; cases f
                   simp_all
                   done)
                | (trace_state; fail)
          · skip
            refine o_y (y_pick_t rfl rfl) rfl rfl ?_
            refine o_y (y_move rfl) rfl rfl ?_
            refine wl_gno rfl rfl rfl rfl ?_
            refine wl_gno rfl rfl rfl rfl ?_
            refine wl_gno rfl rfl rfl rfl ?_
            refine wl_gno rfl rfl rfl rfl ?_
            refine wl_gno rfl rfl rfl rfl ?_
            refine o_y (y_pick_f rfl rfl) rfl rfl ?_
            refine o_y (y_move rfl) rfl rfl ?_
            refine wl_gno rfl rfl rfl rfl ?_
            refine wl_gno rfl rfl rfl rfl ?_
            refine wl_gno rfl rfl rfl rfl ?_
            refine wl_gno rfl rfl rfl rfl ?_
            refine wl_gno rfl rfl rfl rfl ?_
            refine o_y (y_pick_f rfl rfl) rfl rfl ?_
            refine o_y (y_assign rfl) rfl rfl ?_
            refine wl_nil ?_
            refine e_seq ?_
            refine w_ret ?_
            refine e_ret (ts := [4]) rfl rfl rfl (fun w hw => ?_)
            refine ⟨(), ?_, hw.base, (hw.weak (List.nil_sublist _) (fun s hs => hs)).toNews⟩
            show Ending.returned (.bool _) = _
            congr 2
            first
              | (have hne : e ≠ f := fun h => by
                   subst h
                   simp_all
                 rw [decide_eq_false hne]
                 done)
              | (rw [decide_eq_decide]
                 cases e; cases f
                 simp_all
                 done)
              | (trace_state; fail)
        · skip
          refine o_y (y_pick_t rfl rfl) rfl rfl ?_
          refine o_y (y_move rfl) rfl rfl ?_
          refine wl_gno rfl rfl rfl rfl ?_
          refine wl_gno rfl rfl rfl rfl ?_
          refine wl_gno rfl rfl rfl rfl ?_
          refine wl_gno rfl rfl rfl rfl ?_
          refine wl_gno rfl rfl rfl rfl ?_
          refine o_y (y_pick_f rfl rfl) rfl rfl ?_
          refine o_y (y_move rfl) rfl rfl ?_
          refine wl_gno rfl rfl rfl rfl ?_
          refine wl_gno rfl rfl rfl rfl ?_
          refine wl_gno rfl rfl rfl rfl ?_
          refine wl_gno rfl rfl rfl rfl ?_
          refine wl_gno rfl rfl rfl rfl ?_
          refine o_y (y_pick_f rfl rfl) rfl rfl ?_
          refine o_y (y_move rfl) rfl rfl ?_
          refine wl_gno rfl rfl rfl rfl ?_
          refine wl_gno rfl rfl rfl rfl ?_
          refine wl_gno rfl rfl rfl rfl ?_
          refine wl_gno rfl rfl rfl rfl ?_
          refine wl_gno rfl rfl rfl rfl ?_
          refine o_y (y_pick_f rfl rfl) rfl rfl ?_
          refine o_y (y_assign rfl) rfl rfl ?_
          refine wl_nil ?_
          refine e_seq ?_
          refine w_ret ?_
          refine e_ret (ts := [4]) rfl rfl rfl (fun w hw => ?_)
          refine ⟨(), ?_, hw.base, (hw.weak (List.nil_sublist _) (fun s hs => hs)).toNews⟩
          show Ending.returned (.bool _) = _
          congr 2
          first
            | (have hne : e ≠ f := fun h => by
                 subst h
                 simp_all
               rw [decide_eq_false hne]
               done)
            | (rw [decide_eq_decide]
               cases e; cases f
               simp_all
               done)
            | (trace_state; fail)
      · skip
        refine o_y (y_pick_t rfl rfl) rfl rfl ?_
        refine o_y (y_move rfl) rfl rfl ?_
        refine wl_gno rfl rfl rfl rfl ?_
        refine wl_gno rfl rfl rfl rfl ?_
        refine wl_gno rfl rfl rfl rfl ?_
        refine wl_gno rfl rfl rfl rfl ?_
        refine wl_gno rfl rfl rfl rfl ?_
        refine o_y (y_pick_f rfl rfl) rfl rfl ?_
        refine o_y (y_move rfl) rfl rfl ?_
        refine wl_gno rfl rfl rfl rfl ?_
        refine wl_gno rfl rfl rfl rfl ?_
        refine wl_gno rfl rfl rfl rfl ?_
        refine wl_gno rfl rfl rfl rfl ?_
        refine wl_gno rfl rfl rfl rfl ?_
        refine o_y (y_pick_f rfl rfl) rfl rfl ?_
        refine o_y (y_move rfl) rfl rfl ?_
        refine wl_gno rfl rfl rfl rfl ?_
        refine wl_gno rfl rfl rfl rfl ?_
        refine wl_gno rfl rfl rfl rfl ?_
        refine wl_gno rfl rfl rfl rfl ?_
        refine wl_gno rfl rfl rfl rfl ?_
        refine o_y (y_pick_f rfl rfl) rfl rfl ?_
        refine o_y (y_move rfl) rfl rfl ?_
        refine wl_gno rfl rfl rfl rfl ?_
        refine wl_gno rfl rfl rfl rfl ?_
        refine wl_gno rfl rfl rfl rfl ?_
        refine wl_gno rfl rfl rfl rfl ?_
        refine wl_gno rfl rfl rfl rfl ?_
        refine o_y (y_pick_f rfl rfl) rfl rfl ?_
        refine o_y (y_assign rfl) rfl rfl ?_
        refine wl_nil ?_
        refine e_seq ?_
        refine w_ret ?_
        refine e_ret (ts := [4]) rfl rfl rfl (fun w hw => ?_)
        refine ⟨(), ?_, hw.base, (hw.weak (List.nil_sublist _) (fun s hs => hs)).toNews⟩
        show Ending.returned (.bool _) = _
        congr 2
        first
          | (have hne : e ≠ f := fun h => by
               subst h
               simp_all
             rw [decide_eq_false hne]
             done)
          | (rw [decide_eq_decide]
             cases e; cases f
             simp_all
             done)
          | (trace_state; fail)
    · skip
      refine o_y (y_pick_t rfl rfl) rfl rfl ?_
      refine o_y (y_move rfl) rfl rfl ?_
      refine wl_gno rfl rfl rfl rfl ?_
      refine wl_gno rfl rfl rfl rfl ?_
      refine wl_gno rfl rfl rfl rfl ?_
      refine wl_gno rfl rfl rfl rfl ?_
      refine wl_gno rfl rfl rfl rfl ?_
      refine o_y (y_pick_f rfl rfl) rfl rfl ?_
      refine o_y (y_move rfl) rfl rfl ?_
      refine wl_gno rfl rfl rfl rfl ?_
      refine wl_gno rfl rfl rfl rfl ?_
      refine wl_gno rfl rfl rfl rfl ?_
      refine wl_gno rfl rfl rfl rfl ?_
      refine wl_gno rfl rfl rfl rfl ?_
      refine o_y (y_pick_f rfl rfl) rfl rfl ?_
      refine o_y (y_move rfl) rfl rfl ?_
      refine wl_gno rfl rfl rfl rfl ?_
      refine wl_gno rfl rfl rfl rfl ?_
      refine wl_gno rfl rfl rfl rfl ?_
      refine wl_gno rfl rfl rfl rfl ?_
      refine wl_gno rfl rfl rfl rfl ?_
      refine o_y (y_pick_f rfl rfl) rfl rfl ?_
      refine o_y (y_move rfl) rfl rfl ?_
      refine wl_gno rfl rfl rfl rfl ?_
      refine wl_gno rfl rfl rfl rfl ?_
      refine wl_gno rfl rfl rfl rfl ?_
      refine wl_gno rfl rfl rfl rfl ?_
      refine wl_gno rfl rfl rfl rfl ?_
      refine o_y (y_pick_f rfl rfl) rfl rfl ?_
      refine o_y (y_move rfl) rfl rfl ?_
      refine wl_gno rfl rfl rfl rfl ?_
      refine wl_gno rfl rfl rfl rfl ?_
      refine wl_gno rfl rfl rfl rfl ?_
      refine wl_gno rfl rfl rfl rfl ?_
      refine wl_gno rfl rfl rfl rfl ?_
      refine o_y (y_pick_f rfl rfl) rfl rfl ?_
      refine o_y (y_assign rfl) rfl rfl ?_
      refine wl_nil ?_
      refine e_seq ?_
      refine w_ret ?_
      refine e_ret (ts := [4]) rfl rfl rfl (fun w hw => ?_)
      refine ⟨(), ?_, hw.base, (hw.weak (List.nil_sublist _) (fun s hs => hs)).toNews⟩
      show Ending.returned (.bool _) = _
      congr 2
      first
        | (have hne : e ≠ f := fun h => by
             subst h
             simp_all
           rw [decide_eq_false hne]
           done)
        | (rw [decide_eq_decide]
           cases e; cases f
           simp_all
           done)
        | (trace_state; fail)
  · skip
    refine o_y (y_move rfl) rfl rfl ?_
    refine wl_gno rfl rfl rfl rfl ?_
    refine wl_gno rfl rfl rfl rfl ?_
    refine wl_gno rfl rfl rfl rfl ?_
    refine wl_gno rfl rfl rfl rfl ?_
    refine wl_gno rfl rfl rfl rfl ?_
    refine o_y (y_pick_f rfl rfl) rfl rfl ?_
    refine o_y (y_move rfl) rfl rfl ?_
    refine wl_gno rfl rfl rfl rfl ?_
    refine wl_gno rfl rfl rfl rfl ?_
    refine wl_gno rfl rfl rfl rfl ?_
    refine wl_gno rfl rfl rfl rfl ?_
    refine wl_gno rfl rfl rfl rfl ?_
    refine o_y (y_pick_f rfl rfl) rfl rfl ?_
    refine o_y (y_move rfl) rfl rfl ?_
    refine wl_gno rfl rfl rfl rfl ?_
    refine wl_gno rfl rfl rfl rfl ?_
    refine wl_gno rfl rfl rfl rfl ?_
    refine wl_gno rfl rfl rfl rfl ?_
    refine wl_gno rfl rfl rfl rfl ?_
    refine o_y (y_pick_f rfl rfl) rfl rfl ?_
    refine o_y (y_move rfl) rfl rfl ?_
    refine wl_gno rfl rfl rfl rfl ?_
    refine wl_gno rfl rfl rfl rfl ?_
    refine wl_gno rfl rfl rfl rfl ?_
    refine wl_gno rfl rfl rfl rfl ?_
    refine wl_gno rfl rfl rfl rfl ?_
    refine o_y (y_pick_f rfl rfl) rfl rfl ?_
    refine o_y (y_move rfl) rfl rfl ?_
    refine wl_gno rfl rfl rfl rfl ?_
    refine wl_gno rfl rfl rfl rfl ?_
    refine wl_gno rfl rfl rfl rfl ?_
    refine wl_gno rfl rfl rfl rfl ?_
    refine wl_gno rfl rfl rfl rfl ?_
    refine o_y (y_pick_f rfl rfl) rfl rfl ?_
    refine o_y (y_move rfl) rfl rfl ?_
    refine wl_gno rfl rfl rfl rfl ?_
    refine wl_gno rfl rfl rfl rfl ?_
    refine wl_gno rfl rfl rfl rfl ?_
    refine wl_gno rfl rfl rfl rfl ?_
    refine wl_gno rfl rfl rfl rfl ?_
    refine o_y (y_pick_f rfl rfl) rfl rfl ?_
    refine o_y (y_assign rfl) rfl rfl ?_
    refine wl_nil ?_
    refine e_seq ?_
    refine w_ret ?_
    refine e_ret (ts := [4]) rfl rfl rfl (fun w hw => ?_)
    refine ⟨(), ?_, hw.base, (hw.weak (List.nil_sublist _) (fun s hs => hs)).toNews⟩
    show Ending.returned (.bool _) = _
    congr 2
    first
      | (have hne : e ≠ f := fun h => by
           subst h
           simp_all
         rw [decide_eq_false hne]
         done)
      | (rw [decide_eq_decide]
         cases e; cases f
         simp_all
         done)
      | (trace_state; fail)

set_option maxRecDepth 100000 in
theorem c_entry_Copy (e : En) (A B : Option Addr) (c d : Nat) (hla : e.addrs.length ≤ 1000000000000) (hlp : e.ports.length ≤ 1000000000000) : RC Try.prog 41 #[.agg (enC e A B c d).toArray] [Ch.rd A 3 adC e.addrs, Ch.rd B 1 enci e.ports] (α := Option Addr × Nat × Option Addr × Nat) (fun p => .agg (enC e p.1 p.2.2.1 p.2.1 p.2.2.2).toArray) (fun p => [Ch.ls p.2.2.1 p.2.2.2 3 1 enci (e).ports, Ch.ls p.1 p.2.1 54 3 adC (e).addrs]) := by
  refine rc_of_W (args := [.agg (enC e A B c d).toArray]) 12 Try.func41 rfl rfl rfl (fun w0 => ?_)
  refine w_seq ?_
  refine w_region ?_
  refine o_box rfl rfl rfl (fun b1 => ?_)
  refine o_alloc ty_48 rfl rfl (fun b2 => ?_)
  refine wl_nil ?_
  refine e_seq ?_
  refine w_seq ?_
  refine w_draw 7 rfl mixed ?_
  refine a_take (i := 0) rfl wanted_none (y_field fa_48_3 rfl) (fun w h => h) (fun w h => h) rfl (pk_seq pk_fn) (by kernel_rfl) rfl ?_
  refine a_take (i := 1) rfl wanted_none (y_loadr 1 ty_45 rfl rfl rfl) (fun w h => h) (fun w h => h) rfl (pk_seq pk_fn) (by kernel_rfl) rfl ?_
  refine a_take (i := 3) rfl wanted_none (y_field fa_48_5 rfl) (fun w h => h) (fun w h => h) rfl (pk_seq pk_fn) (by kernel_rfl) rfl ?_
  refine a_take (i := 4) rfl wanted_none (y_loadr 1 ty_34 rfl rfl rfl) (fun w h => h) (fun w h => h) rfl (pk_seq pk_fn) (by kernel_rfl) rfl ?_
  refine a_one (i := 2) rfl rfl rfl (tame_call rfl ent_68) (by kernel_rfl) rfl ?_
  refine o_callr1 rfl ent_68 rfl (c_Clone_ad _ _ _ (by omega)) (fun w hw => (rd_cons (rd_S 0 rfl hw) rd_nil)) (fun ⟨A2, c2⟩ => ?_)
  refine wl_nil ?_
  refine e_one (fun w h => h.weak (.cons _ (List.Sublist.refl _)) (fun s hs => hs)) ?_
  refine a_take (i := 6) rfl wanted_none (y_field fa_48_3 rfl) (fun w h => h.weak (.cons _ (List.Sublist.refl _)) (fun s hs => hs)) (fun w h => h) rfl (pk_seq pk_fn) (by kernel_rfl) rfl ?_
  refine a_one (i := 5) rfl rfl rfl (tame_call rfl ent_73) (by kernel_rfl) rfl ?_
  refine o_callr1 rfl ent_73 rfl (c_Clone_int _ _ _ (by omega)) (fun w hw => (rd_cons (rd_S 1 rfl hw) rd_nil)) (fun ⟨A3, c3⟩ => ?_)
  refine wl_nil ?_
  refine e_one (fun w h => h.weak (.cons _ (.cons _ (List.Sublist.refl _))) (fun s hs => hs)) ?_
  refine a_one (i := 7) rfl rfl rfl (fun _ _ _ => tame_op (by kernel_rfl)) (by kernel_rfl) rfl ?_
  refine o_store ty_45 rfl rfl rfl (.s (.s (.s (.z)))) rfl rfl rfl rfl ?_
  refine wl_nil ?_
  refine e_tail rfl ?_
  refine a_one (i := 8) rfl rfl rfl (fun _ _ _ => tame_op (by kernel_rfl)) (by kernel_rfl) rfl ?_
  refine o_y (y_field fa_48_5 rfl) rfl rfl ?_
  refine wl_nil ?_
  refine e_tail rfl ?_
  refine a_one (i := 9) rfl rfl rfl (fun _ _ _ => tame_op (by kernel_rfl)) (by kernel_rfl) rfl ?_
  refine o_store ty_34 rfl rfl rfl (.s (.s (.s (.z)))) rfl rfl rfl rfl ?_
  refine wl_nil ?_
  refine e_tail rfl ?_
  refine a_done (by kernel_rfl) ?_
  refine e_seq ?_
  refine w_seq ?_
  refine w_region ?_
  refine o_y (y_loadrs 3 ty_48 rfl rfl rfl rfl) rfl rfl ?_
  refine o_store ty_48 rfl rfl rfl (.s (.s (.z))) rfl rfl rfl rfl ?_
  refine wl_nil ?_
  refine e_seq ?_
  refine w_ret ?_
  refine e_rsr (rs := [.cell 2 48]) rfl (rs_cells 2 ty_48 rfl rfl rfl rfl rs_nil) rfl (fun w hw => ?_)
  exact ⟨⟨A2, c2, A3, c3⟩, rfl, hw.base, (hw.weak (.cons_cons _ (.cons_cons _ (.cons _ (.cons _ .slnil)))) (fun s hs => hs)).toNews⟩

set_option maxRecDepth 100000 in
theorem c_OwnEntry (e : En) (A B : Option Addr) (c d : Nat) (hla : e.addrs.length ≤ 1000000000000) (hlp : e.ports.length ≤ 1000000000000) : RC Try.prog 49 #[.agg (enC e A B c d).toArray] [Ch.rd A 3 adC e.addrs, Ch.rd B 1 enci e.ports] (α := Option Addr × Nat × Option Addr × Nat) (fun p => .agg (enC e p.1 p.2.2.1 p.2.1 p.2.2.2).toArray) (fun p => [Ch.ls p.2.2.1 p.2.2.2 3 1 enci (e).ports, Ch.ls p.1 p.2.1 54 3 adC (e).addrs]) := by
  refine rc_of_W (args := [.agg (enC e A B c d).toArray]) 14 Try.func49 rfl rfl rfl (fun w0 => ?_)
  refine w_seq ?_
  refine w_region ?_
  refine o_box rfl rfl rfl (fun b1 => ?_)
  refine o_alloc ty_48 rfl rfl (fun b2 => ?_)
  refine wl_nil ?_
  refine e_seq ?_
  refine w_seq ?_
  refine w_draw 9 rfl mixed ?_
  refine a_take (i := 1) rfl wanted_none (y_field fa_48_3 rfl) (fun w h => h) (fun w h => h) rfl (pk_seq pk_fn) (by kernel_rfl) rfl ?_
  refine a_take (i := 2) rfl wanted_none (y_loadr 1 ty_45 rfl rfl rfl) (fun w h => h) (fun w h => h) rfl (pk_seq pk_fn) (by kernel_rfl) rfl ?_
  refine a_take (i := 5) rfl wanted_none (y_field fa_48_5 rfl) (fun w h => h) (fun w h => h) rfl (pk_seq pk_fn) (by kernel_rfl) rfl ?_
  refine a_take (i := 6) rfl wanted_none (y_loadr 1 ty_34 rfl rfl rfl) (fun w h => h) (fun w h => h) rfl (pk_seq pk_fn) (by kernel_rfl) rfl ?_
  refine a_many (js := [0, 4]) (by kernel_rfl) rfl ?_
  refine wr_cons (i := 0) rfl rfl rfl (fun _ _ _ => tame_op (by kernel_rfl)) rfl ?_ ?_
  · skip
    refine o_bsl (vs := []) ([] : List (Ad)) enc_ad Try.underlying45 ty_54 rfl rfl rfl rfl rfl rfl (fun As3 => ?_)
    refine wl_nil ?_
    refine e_one (fun w h => h.weak (.cons _ (List.Sublist.refl _)) (fun s hs => hs)) ?_
    refine a_many (js := [3, 4]) (by kernel_rfl) rfl ?_
    refine wr_cons (i := 3) rfl rfl rfl (fun _ _ _ => tame_op (by kernel_rfl)) rfl ?_ ?_
    · skip
      refine o_appm (enc := adC) (sz := 3) e.addrs Try.underlying45 ty_54 rfl rfl rfl (fun A c => .z) (src_S 0 Try.underlying45 rfl) (by simp only [List.length_cons, List.length_nil, Nat.zero_add]; omega) (by simp only [List.length_cons, List.length_nil, Nat.zero_add]; omega) rfl (fun A3 c3 => ?_)
      refine wl_nil ?_
      refine e_one (fun w h => h.weak (.cons _ (List.Sublist.refl _)) (fun s hs => hs)) ?_
      refine a_take (i := 8) rfl wanted_none (y_field fa_48_3 rfl) (fun w h => h.weak (.cons _ (List.Sublist.refl _)) (fun s hs => hs)) (fun w h => h) rfl (pk_seq pk_fn) (by kernel_rfl) rfl ?_
      refine a_one (i := 4) rfl rfl rfl (fun _ _ _ => tame_op (by kernel_rfl)) (by kernel_rfl) rfl ?_
      refine o_bsl (vs := []) ([] : List (Int)) enc_i Try.underlying34 ty_3 rfl rfl rfl rfl rfl rfl (fun As5 => ?_)
      refine wl_nil ?_
      refine e_one (fun w h => h.weak (.cons _ (.cons _ (List.Sublist.refl _))) (fun s hs => hs)) ?_
      refine a_one (i := 7) rfl rfl rfl (fun _ _ _ => tame_op (by kernel_rfl)) (by kernel_rfl) rfl ?_
      refine o_appm (enc := enci) (sz := 1) e.ports Try.underlying34 ty_3 rfl rfl rfl (fun A c => .z) (src_S 1 Try.underlying34 rfl) (by simp only [List.length_cons, List.length_nil, Nat.zero_add]; omega) (by simp only [List.length_cons, List.length_nil, Nat.zero_add]; omega) rfl (fun A5 c5 => ?_)
      refine wl_nil ?_
      refine e_one (fun w h => h.weak (.cons _ (.cons _ (List.Sublist.refl _))) (fun s hs => hs)) ?_
      refine a_one (i := 9) rfl rfl rfl (fun _ _ _ => tame_op (by kernel_rfl)) (by kernel_rfl) rfl ?_
      refine o_store ty_45 rfl rfl rfl (.s (.s (.s (.z)))) rfl rfl rfl rfl ?_
      refine wl_nil ?_
      refine e_tail rfl ?_
      refine a_one (i := 10) rfl rfl rfl (fun _ _ _ => tame_op (by kernel_rfl)) (by kernel_rfl) rfl ?_
      refine o_y (y_field fa_48_5 rfl) rfl rfl ?_
      refine wl_nil ?_
      refine e_tail rfl ?_
      refine a_one (i := 11) rfl rfl rfl (fun _ _ _ => tame_op (by kernel_rfl)) (by kernel_rfl) rfl ?_
      refine o_store ty_34 rfl rfl rfl (.s (.s (.s (.z)))) rfl rfl rfl rfl ?_
      refine wl_nil ?_
      refine e_tail rfl ?_
      refine a_done (by kernel_rfl) ?_
      refine e_seq ?_
      refine w_seq ?_
      refine w_region ?_
      refine o_y (y_loadrs 3 ty_48 rfl rfl rfl rfl) rfl rfl ?_
      refine o_store ty_48 rfl rfl rfl (.s (.s (.z))) rfl rfl rfl rfl ?_
      refine wl_nil ?_
      refine e_seq ?_
      refine w_ret ?_
      refine e_rsr (rs := [.cell 2 48]) rfl (rs_cells 2 ty_48 rfl rfl rfl rfl rs_nil) rfl (fun w hw => ?_)
      exact ⟨⟨A3, c3, A5, c5⟩, rfl, hw.base, (hw.weak (.cons_cons _ (.cons_cons _ (.cons _ (.cons _ .slnil)))) (fun s hs => hs)).toNews⟩
    refine wr_cons (i := 4) rfl rfl rfl (fun _ _ _ => tame_op (by kernel_rfl)) rfl ?_ ?_
    · skip
      refine o_bsl (vs := []) ([] : List (Int)) enc_i Try.underlying34 ty_3 rfl rfl rfl rfl rfl rfl (fun As7 => ?_)
      refine wl_nil ?_
      refine e_one (fun w h => h.weak (.cons _ (.cons _ (List.Sublist.refl _))) (fun s hs => hs)) ?_
      refine a_one (i := 3) rfl rfl rfl (fun _ _ _ => tame_op (by kernel_rfl)) (by kernel_rfl) rfl ?_
      refine o_appm (enc := adC) (sz := 3) e.addrs Try.underlying45 ty_54 rfl rfl rfl (fun A c => (.s (.z))) (src_S 0 Try.underlying45 rfl) (by simp only [List.length_cons, List.length_nil, Nat.zero_add]; omega) (by simp only [List.length_cons, List.length_nil, Nat.zero_add]; omega) rfl (fun A7 c7 => ?_)
      refine wl_nil ?_
      refine e_one (fun w h => h.weak (.cons _ (.cons _ (List.Sublist.refl _))) (fun s hs => hs)) ?_
      refine a_take (i := 8) rfl wanted_none (y_field fa_48_3 rfl) (fun w h => h.weak (.cons _ (.cons _ (List.Sublist.refl _))) (fun s hs => hs)) (fun w h => h) rfl (pk_seq pk_fn) (by kernel_rfl) rfl ?_
      refine a_one (i := 7) rfl rfl rfl (fun _ _ _ => tame_op (by kernel_rfl)) (by kernel_rfl) rfl ?_
      refine o_appm (enc := enci) (sz := 1) e.ports Try.underlying34 ty_3 rfl rfl rfl (fun A c => .z) (src_S 1 Try.underlying34 rfl) (by simp only [List.length_cons, List.length_nil, Nat.zero_add]; omega) (by simp only [List.length_cons, List.length_nil, Nat.zero_add]; omega) rfl (fun A8 c8 => ?_)
      refine wl_nil ?_
      refine e_one (fun w h => h.weak (.cons _ (.cons _ (List.Sublist.refl _))) (fun s hs => hs)) ?_
      refine a_one (i := 9) rfl rfl rfl (fun _ _ _ => tame_op (by kernel_rfl)) (by kernel_rfl) rfl ?_
      refine o_store ty_45 rfl rfl rfl (.s (.s (.s (.z)))) rfl rfl rfl rfl ?_
      refine wl_nil ?_
      refine e_tail rfl ?_
      refine a_one (i := 10) rfl rfl rfl (fun _ _ _ => tame_op (by kernel_rfl)) (by kernel_rfl) rfl ?_
      refine o_y (y_field fa_48_5 rfl) rfl rfl ?_
      refine wl_nil ?_
      refine e_tail rfl ?_
      refine a_one (i := 11) rfl rfl rfl (fun _ _ _ => tame_op (by kernel_rfl)) (by kernel_rfl) rfl ?_
      refine o_store ty_34 rfl rfl rfl (.s (.s (.s (.z)))) rfl rfl rfl rfl ?_
      refine wl_nil ?_
      refine e_tail rfl ?_
      refine a_done (by kernel_rfl) ?_
      refine e_seq ?_
      refine w_seq ?_
      refine w_region ?_
      refine o_y (y_loadrs 3 ty_48 rfl rfl rfl rfl) rfl rfl ?_
      refine o_store ty_48 rfl rfl rfl (.s (.s (.z))) rfl rfl rfl rfl ?_
      refine wl_nil ?_
      refine e_seq ?_
      refine w_ret ?_
      refine e_rsr (rs := [.cell 2 48]) rfl (rs_cells 2 ty_48 rfl rfl rfl rfl rs_nil) rfl (fun w hw => ?_)
      exact ⟨⟨A7, c7, A8, c8⟩, rfl, hw.base, (hw.weak (.cons_cons _ (.cons_cons _ (.cons _ (.cons _ .slnil)))) (fun s hs => hs)).toNews⟩
    exact wr_nil
  refine wr_cons (i := 4) rfl rfl rfl (fun _ _ _ => tame_op (by kernel_rfl)) rfl ?_ ?_
  · skip
    refine o_bsl (vs := []) ([] : List (Int)) enc_i Try.underlying34 ty_3 rfl rfl rfl rfl rfl rfl (fun As10 => ?_)
    refine wl_nil ?_
    refine e_one (fun w h => h.weak (.cons _ (List.Sublist.refl _)) (fun s hs => hs)) ?_
    refine a_one (i := 0) rfl rfl rfl (fun _ _ _ => tame_op (by kernel_rfl)) (by kernel_rfl) rfl ?_
    refine o_bsl (vs := []) ([] : List (Ad)) enc_ad Try.underlying45 ty_54 rfl rfl rfl rfl rfl rfl (fun As11 => ?_)
    refine wl_nil ?_
    refine e_one (fun w h => h.weak (.cons _ (.cons _ (List.Sublist.refl _))) (fun s hs => hs)) ?_
    refine a_one (i := 3) rfl rfl rfl (fun _ _ _ => tame_op (by kernel_rfl)) (by kernel_rfl) rfl ?_
    refine o_appm (enc := adC) (sz := 3) e.addrs Try.underlying45 ty_54 rfl rfl rfl (fun A c => .z) (src_S 0 Try.underlying45 rfl) (by simp only [List.length_cons, List.length_nil, Nat.zero_add]; omega) (by simp only [List.length_cons, List.length_nil, Nat.zero_add]; omega) rfl (fun A11 c11 => ?_)
    refine wl_nil ?_
    refine e_one (fun w h => h.weak (.cons _ (.cons _ (List.Sublist.refl _))) (fun s hs => hs)) ?_
    refine a_take (i := 8) rfl wanted_none (y_field fa_48_3 rfl) (fun w h => h.weak (.cons _ (.cons _ (List.Sublist.refl _))) (fun s hs => hs)) (fun w h => h) rfl (pk_seq pk_fn) (by kernel_rfl) rfl ?_
    refine a_one (i := 7) rfl rfl rfl (fun _ _ _ => tame_op (by kernel_rfl)) (by kernel_rfl) rfl ?_
    refine o_appm (enc := enci) (sz := 1) e.ports Try.underlying34 ty_3 rfl rfl rfl (fun A c => (.s (.z))) (src_S 1 Try.underlying34 rfl) (by simp only [List.length_cons, List.length_nil, Nat.zero_add]; omega) (by simp only [List.length_cons, List.length_nil, Nat.zero_add]; omega) rfl (fun A12 c12 => ?_)
    refine wl_nil ?_
    refine e_one (fun w h => h.weak (.cons _ (.cons _ (List.Sublist.refl _))) (fun s hs => hs)) ?_
    refine a_one (i := 9) rfl rfl rfl (fun _ _ _ => tame_op (by kernel_rfl)) (by kernel_rfl) rfl ?_
    refine o_store ty_45 rfl rfl rfl (.s (.s (.s (.z)))) rfl rfl rfl rfl ?_
    refine wl_nil ?_
    refine e_tail rfl ?_
    refine a_one (i := 10) rfl rfl rfl (fun _ _ _ => tame_op (by kernel_rfl)) (by kernel_rfl) rfl ?_
    refine o_y (y_field fa_48_5 rfl) rfl rfl ?_
    refine wl_nil ?_
    refine e_tail rfl ?_
    refine a_one (i := 11) rfl rfl rfl (fun _ _ _ => tame_op (by kernel_rfl)) (by kernel_rfl) rfl ?_
    refine o_store ty_34 rfl rfl rfl (.s (.s (.s (.z)))) rfl rfl rfl rfl ?_
    refine wl_nil ?_
    refine e_tail rfl ?_
    refine a_done (by kernel_rfl) ?_
    refine e_seq ?_
    refine w_seq ?_
    refine w_region ?_
    refine o_y (y_loadrs 3 ty_48 rfl rfl rfl rfl) rfl rfl ?_
    refine o_store ty_48 rfl rfl rfl (.s (.s (.z))) rfl rfl rfl rfl ?_
    refine wl_nil ?_
    refine e_seq ?_
    refine w_ret ?_
    refine e_rsr (rs := [.cell 2 48]) rfl (rs_cells 2 ty_48 rfl rfl rfl rfl rs_nil) rfl (fun w hw => ?_)
    have hw := (hw.weak (.cons_cons _ (.cons_cons _ (.cons _ (.cons _ .slnil)))) (fun s hs => hs)).f1
    exact ⟨⟨A11, c11, A12, c12⟩, rfl, hw.base, hw.toNews⟩
  exact wr_nil


/-- The entry of the folded host. -/
theorem fold_facts {n : Str} (h : nameCk n = 0) : nameCk (foldN n) = 0 ∧ (foldN n = [] ↔ n = []) ∧ foldN (foldN n) = foldN n := by
  have e : foldN n = lowS n := if_pos h
  refine ⟨by rw [e]; exact nameCk_low h, ?_, foldN_foldN h⟩
  rw [e, ← List.length_eq_zero_iff, lowS_length, List.length_eq_zero_iff]
theorem mayOk_host (e : En) (n : Str) : mayOk { e with host := n } = mayOk e := rfl
theorem entCk_fold {e : En} (h : nameCk e.host = 0) : entCk { e with host := foldN e.host } = entCk e := by
  obtain ⟨h1, h2, _⟩ := fold_facts h
  have e1 : entCk { e with host := foldN e.host } = if nameCk (foldN e.host) ≠ 0 then nameCk (foldN e.host) else if foldN e.host = [] ∨ 2147483647 < e.ttl ∨ portsOk e.ports = false ∨ mayOk e = false then 2 else 0 := rfl
  have e2 : entCk e = if e.host = [] ∨ 2147483647 < e.ttl ∨ portsOk e.ports = false ∨ mayOk e = false then 2 else 0 := by rw [entCk, if_neg (fun h9 => h9 h)]
  rw [e1, if_neg (fun h9 => h9 h1), e2]
  simp only [h2]
theorem entAd_fold {e : En} (held : List Ad) (h : nameCk e.host = 0) : entAd { e with host := foldN e.host } held = entAd e held := by
  rw [entAd, entCk_fold h]; rfl
theorem recs_fold {e : En} (owner : Str) (held : List Ad) (t : Int) (h : nameCk e.host = 0) : recs { e with host := foldN e.host } owner held t = recs e owner held t := by
  rw [recs, entCk_fold h, entAd_fold held h]; rfl


set_option maxRecDepth 100000 in
theorem c_EntryFolds (e : En) (A B : Option Addr) (c d : Nat) (owner : Str) (H : Option Addr) (h : Nat) (held : List Ad) (hoh : ∀ a ∈ held, AdOk a) (t : Int) (hok : EnOk e) (hol : owner.length ≤ 9223372036854775807) (hhl : held.length ≤ 9223372036854775807) : RC Try.prog 9 #[.agg (enC e A B c d).toArray, .string (ba owner), .slice H held.length h, .int .i64 t] [Ch.rd A 3 adC e.addrs, Ch.rd B 1 enci e.ports, Ch.rd H 3 adC held] (α := Unit) (fun _ => .bool true) (fun _ => []) := by
  refine rc_of_W (args := [.agg (enC e A B c d).toArray, .string (ba owner), .slice H held.length h, .int .i64 t]) 94 Try.func9 rfl rfl rfl (fun w0 => ?_)
  obtain ⟨hok1, hok2, hok3, hok4, hok5, hok6, hok7, hok8, hok9, hok10⟩ := id hok
  have hwa := hok.lo
  have hk := hok2
  have hwh : ∀ a ∈ held, 0 ≤ a.lo := fun a ha => (hoh a ha).2.2.1
  refine w_seq ?_
  refine w_region ?_
  refine o_box rfl rfl rfl (fun b1 => ?_)
  refine o_y (y_assign rfl) rfl rfl ?_
  refine wl_nil ?_
  refine e_seq ?_
  refine w_seq ?_
  refine w_seq ?_
  refine w_region ?_
  refine o_callp rfl ent_29 c_lives16 rfl ?_
  refine wl_as (t := 13) (.bool true) rfl (congrArg Value.bool rfl) ?_
  refine o_y (y_not rfl) rfl rfl ?_
  refine wl_nil ?_
  refine e_seq ?_
  refine w_cond_f rfl ?_
  refine w_skip ?_
  refine e_seq ?_
  refine w_seq ?_
  refine w_seq ?_
  refine w_region ?_
  refine o_y (y_loadrs 0 ty_48 rfl rfl rfl rfl) rfl rfl ?_
  refine o_callp rfl ent_30 (c_LightEntry _ _ _ _ _) rfl ?_
  refine wl_splitb (t := 16) rfl (fun h3_1 => ?_) (fun h3_1 => ?_)
  · skip
    obtain ⟨hl1, hl2, hl3, hl4, hl5⟩ := light_le h3_1
    refine o_y (y_not rfl) rfl rfl ?_
    refine o_y (y_move rfl) rfl rfl ?_
    refine wl_gyes rfl rfl ?_
    refine o_y (y_move rfl) rfl rfl ?_
    refine wl_gyes rfl rfl ?_
    refine o_y (y_lens Try.underlying22 rfl) rfl rfl ?_
    refine wl_gyes rfl rfl ?_
    refine o_y (y_gtr rfl rfl) rfl rfl ?_
    refine wl_splitp (t := 21) rfl (fun h3_6 => ?_) (fun h3_6 => ?_)
    · skip
      refine o_y (y_pick_f rfl rfl) rfl rfl ?_
      refine o_y (y_move rfl) rfl rfl ?_
      refine wl_gno rfl rfl rfl rfl ?_
      refine wl_gno rfl rfl rfl rfl ?_
      refine wl_gno rfl rfl rfl rfl ?_
      refine o_y (y_pick_t rfl rfl) rfl rfl ?_
      refine wl_nil ?_
      refine e_seq ?_
      refine w_cond_t rfl ?_
      refine w_seq ?_
      refine w_region ?_
      refine o_y (y_assign rfl) rfl rfl ?_
      refine wl_nil ?_
      refine e_seq ?_
      refine w_ret ?_
      refine e_seq_ret ?_
      refine e_ret (ts := [8]) rfl rfl rfl (fun w hw => ?_)
      exact ⟨(), rfl, hw.base, (hw.weak (List.nil_sublist _) (fun s hs => hs)).toNews⟩
    · skip
      refine o_y (y_pick_f rfl rfl) rfl rfl ?_
      refine o_y (y_move rfl) rfl rfl ?_
      refine wl_gyes rfl rfl ?_
      refine o_y (y_move rfl) rfl rfl ?_
      refine wl_gyes rfl rfl ?_
      refine o_y (y_lenl Try.underlying45 rfl) rfl rfl ?_
      refine wl_gyes rfl rfl ?_
      refine o_y (y_gtr rfl rfl) rfl rfl ?_
      refine wl_splitp (t := 26) rfl (fun h3_11 => ?_) (fun h3_11 => ?_)
      · skip
        refine o_y (y_pick_f rfl rfl) rfl rfl ?_
        refine wl_nil ?_
        refine e_seq ?_
        refine w_cond_t rfl ?_
        refine w_seq ?_
        refine w_region ?_
        refine o_y (y_assign rfl) rfl rfl ?_
        refine wl_nil ?_
        refine e_seq ?_
        refine w_ret ?_
        refine e_seq_ret ?_
        refine e_ret (ts := [8]) rfl rfl rfl (fun w hw => ?_)
        exact ⟨(), rfl, hw.base, (hw.weak (List.nil_sublist _) (fun s hs => hs)).toNews⟩
      · skip
        refine o_y (y_pick_f rfl rfl) rfl rfl ?_
        refine wl_nil ?_
        refine e_seq ?_
        refine w_cond_f rfl ?_
        refine w_skip ?_
        refine e_seq ?_
        refine w_seq ?_
        refine w_region ?_
        refine o_y (y_loadrs 0 ty_48 rfl rfl rfl rfl) rfl rfl ?_
        refine o_alloc ty_48 rfl rfl (fun b2 => ?_)
        refine o_store ty_48 rfl rfl rfl .z rfl rfl rfl rfl ?_
        refine wl_nil ?_
        refine e_seq ?_
        refine w_seq ?_
        refine w_region ?_
        refine o_y (y_field fa_48_0 rfl) rfl rfl ?_
        refine o_y (y_loadr 1 ty_22 rfl rfl rfl) rfl rfl ?_
        refine o_callp rfl ent_37 (p_ref02_Fold _ (by omega)) rfl ?_
        refine o_y (y_field fa_48_0 rfl) rfl rfl ?_
        refine o_store ty_22 rfl rfl rfl .z rfl rfl rfl rfl ?_
        refine wl_nil ?_
        refine e_seq ?_
        refine w_seq ?_
        refine w_seq ?_
        refine w_region ?_
        refine o_y (y_field fa_48_0 rfl) rfl rfl ?_
        refine o_y (y_loadr 1 ty_22 rfl rfl rfl) rfl rfl ?_
        refine o_callp rfl ent_35 (c_ref02_Check _) rfl ?_
        refine o_y (y_neq rfl rfl) rfl rfl ?_
        refine wl_splitp (t := 36) rfl (fun h7_3 => ?_) (fun h7_3 => ?_)
        · skip
          refine wl_nil ?_
          refine e_seq ?_
          refine w_cond_t rfl ?_
          refine w_seq ?_
          refine w_region ?_
          refine o_y (y_loadrs 1 ty_48 rfl rfl rfl rfl) rfl rfl ?_
          refine o_callq rfl ent_34 rfl (c_entry_Check _ _ _ _ _ hwa (by omega) (by omega) hk) (fun w hw => (rd_cons (rd_S 0 rfl hw) (rd_cons (rd_S 1 rfl hw) rd_nil))) ?_
          refine o_y (y_neq rfl rfl) rfl rfl ?_
          refine wl_at (t := 39) rfl (fun h9 => h7_3 (ck_host h9)) ?_
          refine o_y (y_move rfl) rfl rfl ?_
          refine wl_gyes rfl rfl ?_
          refine o_y (y_loadrs 1 ty_48 rfl rfl rfl rfl) rfl rfl ?_
          refine wl_gyes rfl rfl ?_
          refine o_y (y_move rfl) rfl rfl ?_
          refine wl_gyes rfl rfl ?_
          refine o_y (y_move rfl) rfl rfl ?_
          refine wl_gyes rfl rfl ?_
          refine o_y (y_move rfl) rfl rfl ?_
          refine wl_gyes rfl rfl ?_
          refine o_callr1 rfl ent_31 rfl (c_entry_Records _ _ _ _ _ _ _ _ _ _ hwh (by omega) hwa (by omega) (by omega) hk) (fun w hw => (rd_cons (rd_S 0 rfl hw) (rd_cons (rd_S 1 rfl hw) (rd_cons (rd_S 2 rfl hw) rd_nil)))) (fun ⟨A2, c2⟩ => ?_)
          refine wl_gyes rfl rfl ?_
          refine o_y (y_lenl Try.underlying50 rfl) rfl rfl ?_
          refine wl_gyes rfl rfl ?_
          refine o_y (y_eql rfl rfl) rfl rfl ?_
          refine wl_at (t := 47) rfl (by rw [recs_nil1 (.inl (fun h9 => h7_3 (ck_host h9)))]; rfl) ?_
          refine o_y (y_pick_t rfl rfl) rfl rfl ?_
          refine o_y (y_assign rfl) rfl rfl ?_
          refine wl_nil ?_
          refine e_seq ?_
          refine w_ret ?_
          refine e_seq_ret ?_
          refine e_ret (ts := [8]) rfl rfl rfl (fun w hw => ?_)
          exact ⟨(), rfl, hw.base, (hw.weak (List.nil_sublist _) (fun s hs => hs)).toNews⟩
        · skip
          refine wl_nil ?_
          refine e_seq ?_
          refine w_cond_f rfl ?_
          refine w_skip ?_
          refine e_seq ?_
          refine w_seq ?_
          have hcn : nameCk e.host = 0 := by omega
          obtain ⟨hff1, hff2, hff3⟩ := fold_facts hcn
          have hcf := entCk_fold hcn
          have hrf := recs_fold owner held t hcn
          have hqt := recs_len e owner held t
          refine w_draw 12 rfl mixed ?_
          refine a_take (i := 0) rfl wanted_none (y_loadrs 1 ty_48 rfl rfl rfl rfl) (fun w h => h) (fun w h => h) rfl (pk_seq pk_fn) (by kernel_rfl) rfl ?_
          refine a_take (i := 1) rfl wanted_none (y_move rfl) (fun w h => h) (fun w h => h) rfl (pk_seq pk_fn) (by kernel_rfl) rfl ?_
          refine a_take (i := 2) rfl wanted_none (y_move rfl) (fun w h => h) (fun w h => h) rfl (pk_seq pk_fn) (by kernel_rfl) rfl ?_
          refine a_take (i := 3) rfl wanted_none (y_move rfl) (fun w h => h) (fun w h => h) rfl (pk_seq pk_fn) (by kernel_rfl) rfl ?_
          refine a_take (i := 5) rfl wanted_none (y_loadrs 0 ty_48 rfl rfl rfl rfl) (fun w h => h) (fun w h => h) rfl (pk_seq pk_fn) (by kernel_rfl) rfl ?_
          refine a_take (i := 6) rfl wanted_none (y_move rfl) (fun w h => h) (fun w h => h) rfl (pk_seq pk_fn) (by kernel_rfl) rfl ?_
          refine a_take (i := 7) rfl wanted_none (y_move rfl) (fun w h => h) (fun w h => h) rfl (pk_seq pk_fn) (by kernel_rfl) rfl ?_
          refine a_take (i := 8) rfl wanted_none (y_move rfl) (fun w h => h) (fun w h => h) rfl (pk_seq pk_fn) (by kernel_rfl) rfl ?_
          refine a_one (i := 4) rfl rfl rfl (tame_call rfl ent_31) (by kernel_rfl) rfl ?_
          refine o_callr1 rfl ent_31 rfl (c_entry_Records _ _ _ _ _ _ _ _ _ _ hwh (by omega) hwa (by omega) (by omega) hk) (fun w hw => (rd_cons (rd_S 0 rfl hw) (rd_cons (rd_S 1 rfl hw) (rd_cons (rd_S 2 rfl hw) rd_nil)))) (fun ⟨A3, c3⟩ => ?_)
          refine wl_nil ?_
          refine e_one (fun w h => h.weak (.cons _ (List.Sublist.refl _)) (fun s hs => hs)) ?_
          refine a_one (i := 9) rfl rfl rfl (tame_call rfl ent_31) (by kernel_rfl) rfl ?_
          refine o_callr1 rfl ent_31 rfl (c_entry_Records { e with host := foldN e.host } _ _ _ _ owner t _ _ held hwh (by omega) hwa (show e.addrs.length ≤ _ by omega) (show e.ports.length ≤ _ by omega) hk) (fun w hw => (rd_cons (rd_S 0 rfl hw) (rd_cons (rd_S 1 rfl hw) (rd_cons (rd_S 2 rfl hw) rd_nil)))) (fun ⟨A4, c4⟩ => ?_)
          refine wl_nil ?_
          refine e_one (fun w h => h.weak (.cons _ (.cons _ (List.Sublist.refl _))) (fun s hs => hs)) ?_
          refine a_take (i := 10) rfl wanted_none (y_assign rfl) (fun w h => h.weak (.cons _ (.cons _ (List.Sublist.refl _))) (fun s hs => hs)) (fun w h => h) rfl (pk_seq pk_fn) (by kernel_rfl) rfl ?_
          refine a_take (i := 11) rfl wanted_none (y_assign rfl) (fun w h => h.weak (.cons _ (.cons _ (List.Sublist.refl _))) (fun s hs => hs)) (fun w h => h) rfl (pk_seq pk_fn) (by kernel_rfl) rfl ?_
          refine a_done (by kernel_rfl) ?_
          refine e_seq ?_
          refine w_seq ?_
          refine w_seq ?_
          refine w_draw 19 rfl mixed ?_
          refine a_take (i := 0) rfl wanted_none (y_loadrs 3 ty_48 rfl rfl rfl rfl) (fun w h => h) (fun w h => h) rfl (pk_seq (pk_seq pk_fn)) (by kernel_rfl) rfl ?_
          refine a_take (i := 2) rfl wanted_none (y_loadrs 2 ty_48 rfl rfl rfl rfl) (fun w h => h) (fun w h => h) rfl (pk_seq (pk_seq pk_fn)) (by kernel_rfl) rfl ?_
          refine a_one (i := 1) rfl rfl rfl (tame_call rfl ent_34) (by kernel_rfl) rfl ?_
          refine o_callq rfl ent_34 rfl (c_entry_Check _ _ _ _ _ hwa (by omega) (by omega) hk) (fun w hw => (rd_cons (rd_S 0 rfl hw) (rd_cons (rd_S 1 rfl hw) rd_nil))) ?_
          refine wl_nil ?_
          refine e_one (fun w h => h) ?_
          refine a_one (i := 3) rfl rfl rfl (tame_call rfl ent_34) (by kernel_rfl) rfl ?_
          refine o_callq rfl ent_34 rfl (c_entry_Check { e with host := foldN e.host } _ _ _ _ hwa (show e.addrs.length ≤ _ by omega) (show e.ports.length ≤ _ by omega) hk) (fun w hw => (rd_cons (rd_S 0 rfl hw) (rd_cons (rd_S 1 rfl hw) rd_nil))) ?_
          refine wl_nil ?_
          refine e_one (fun w h => h) ?_
          refine a_take (i := 4) rfl wanted_none (y_neq rfl rfl) (fun w h => h) (fun w h => h) rfl (pk_seq (pk_seq pk_fn)) (by kernel_rfl) rfl ?_
          refine wa_af (t := 63) rfl (fun h9 => h9 hcf.symm) ?_
          refine a_take (i := 5) rfl wanted_none (y_move rfl) (fun w h => h) (fun w h => h) rfl (pk_seq (pk_seq pk_fn)) (by kernel_rfl) rfl ?_
          refine a_take (i := 6) rfl (wanted_yes rfl rfl) (y_loadrs 3 ty_48 rfl rfl rfl rfl) (fun w h => h) (fun w h => h) rfl (pk_seq (pk_seq pk_fn)) (by kernel_rfl) rfl ?_
          refine a_take (i := 8) rfl (wanted_yes rfl rfl) (y_field fa_48_0 rfl) (fun w h => h) (fun w h => h) rfl (pk_seq (pk_seq pk_fn)) (by kernel_rfl) rfl ?_
          refine a_take (i := 9) rfl (wanted_yes rfl rfl) (y_loadr 2 ty_22 rfl rfl rfl) (fun w h => h) (fun w h => h) rfl (pk_seq (pk_seq pk_fn)) (by kernel_rfl) rfl ?_
          refine a_one (i := 7) rfl rfl rfl (tame_call rfl ent_38) (by kernel_rfl) rfl ?_
          refine wl_gyes rfl rfl ?_
          refine o_callp rfl ent_38 (c_entry_Key _ _ _ _ _ (by omega)) rfl ?_
          refine wl_nil ?_
          refine e_one (fun w h => h) ?_
          refine a_take (i := 10) rfl (wanted_yes rfl rfl) (y_neqs rfl rfl) (fun w h => h) (fun w h => h) rfl (pk_seq (pk_seq pk_fn)) (by kernel_rfl) rfl ?_
          refine wa_af (t := 69) rfl (fun h9 => h9 rfl) ?_
          refine a_take (i := 11) rfl wanted_none (y_pick_f rfl rfl) (fun w h => h) (fun w h => h) rfl (pk_seq (pk_seq pk_fn)) (by kernel_rfl) rfl ?_
          refine a_take (i := 12) rfl wanted_none (y_move rfl) (fun w h => h) (fun w h => h) rfl (pk_seq (pk_seq pk_fn)) (by kernel_rfl) rfl ?_
          refine a_take (i := 13) rfl (wanted_yes rfl rfl) (y_move rfl) (fun w h => h) (fun w h => h) rfl (pk_seq (pk_seq pk_fn)) (by kernel_rfl) rfl ?_
          refine a_take (i := 14) rfl (wanted_yes rfl rfl) (y_lenl Try.underlying50 rfl) (fun w h => h) (fun w h => h) rfl (pk_seq (pk_seq pk_fn)) (by kernel_rfl) rfl ?_
          refine a_take (i := 15) rfl (wanted_yes rfl rfl) (y_move rfl) (fun w h => h) (fun w h => h) rfl (pk_seq (pk_seq pk_fn)) (by kernel_rfl) rfl ?_
          refine a_take (i := 16) rfl (wanted_yes rfl rfl) (y_lenl Try.underlying50 rfl) (fun w h => h) (fun w h => h) rfl (pk_seq (pk_seq pk_fn)) (by kernel_rfl) rfl ?_
          refine a_take (i := 17) rfl (wanted_yes rfl rfl) (y_neq rfl rfl) (fun w h => h) (fun w h => h) rfl (pk_seq (pk_seq pk_fn)) (by kernel_rfl) rfl ?_
          refine wa_af (t := 76) rfl (fun h9 => h9 (by rw [hrf])) ?_
          refine a_take (i := 18) rfl wanted_none (y_pick_f rfl rfl) (fun w h => h) (fun w h => h) rfl (pk_seq (pk_seq pk_fn)) (by kernel_rfl) rfl ?_
          refine a_done (by kernel_rfl) ?_
          refine e_seq ?_
          refine w_cond_f rfl ?_
          refine w_skip ?_
          refine e_seq ?_
          refine w_seq ?_
          refine w_seq ?_
          refine w_region ?_
          refine o_y (y_assign rfl) rfl rfl ?_
          refine wl_nil ?_
          refine e_seq ?_
          refine w_block ?_
          refine w_loop0 (σ := Nat) [8, 12, 78, 79, 80, 81, 82, 83, 84, 85, 86, 87, 88, 89, 90, 91, 92, 93] (fun k => k ≤ (recs e owner held t).length) (fun k => (recs e owner held t).length - k) (fun k => [(12, .int .i64 k)]) (0) ?_ ⟨rfl, trivial⟩ (fun k hI => ?_)
          · exact Nat.zero_le _
          refine w_seq ?_
          refine w_seq ?_
          refine w_region ?_
          refine o_y (y_move rfl) rfl rfl ?_
          refine o_y (y_move rfl) rfl rfl ?_
          refine o_y (y_lenl Try.underlying50 rfl) rfl rfl ?_
          refine o_y (y_lss rfl rfl) rfl rfl ?_
          refine wl_splitp (t := 81) rfl (fun h13_3 => ?_) (fun h13_3 => ?_)
          · skip
            refine wl_nil ?_
            refine e_seq ?_
            refine w_cond_t rfl ?_
            refine w_skip ?_
            refine e_seq ?_
            refine w_seq ?_
            refine w_block ?_
            refine w_seq ?_
            refine w_draw 10 rfl mixed ?_
            refine a_take (i := 0) rfl wanted_none (y_move rfl) (fun w h => h) (fun w h => h) rfl (pk_seq (pk_blk (pk_seq (pk_loop (pk_blk (pk_seq pk_fn)))))) (by kernel_rfl) rfl ?_
            refine a_take (i := 1) rfl wanted_none (y_move rfl) (fun w h => h) (fun w h => h) rfl (pk_seq (pk_blk (pk_seq (pk_loop (pk_blk (pk_seq pk_fn)))))) (by kernel_rfl) rfl ?_
            refine a_take (i := 2) rfl wanted_none (y_ixm  Try.underlying50 ty_60 rfl rfl (rs_L 1 rfl) rfl (by omega)) (fun w h => h) (fun w h => h) rfl (pk_seq (pk_blk (pk_seq (pk_loop (pk_blk (pk_seq pk_fn)))))) (by kernel_rfl) rfl ?_
            refine a_take (i := 3) rfl wanted_none (y_ldsm0 enc_rc rc0 ty_60 rfl (rs_L 1 rfl) (by omega) rfl rfl rfl) (fun w h => h) (fun w h => h) rfl (pk_seq (pk_blk (pk_seq (pk_loop (pk_blk (pk_seq pk_fn)))))) (by kernel_rfl) rfl ?_
            refine a_take (i := 4) rfl wanted_none (y_move rfl) (fun w h => h) (fun w h => h) rfl (pk_seq (pk_blk (pk_seq (pk_loop (pk_blk (pk_seq pk_fn)))))) (by kernel_rfl) rfl ?_
            refine a_take (i := 5) rfl wanted_none (y_move rfl) (fun w h => h) (fun w h => h) rfl (pk_seq (pk_blk (pk_seq (pk_loop (pk_blk (pk_seq pk_fn)))))) (by kernel_rfl) rfl ?_
            refine a_take (i := 6) rfl wanted_none (y_ixm  Try.underlying50 ty_60 rfl rfl (rs_L 0 rfl) rfl (by rw [hrf]; omega)) (fun w h => h) (fun w h => h) rfl (pk_seq (pk_blk (pk_seq (pk_loop (pk_blk (pk_seq pk_fn)))))) (by kernel_rfl) rfl ?_
            refine a_take (i := 7) rfl wanted_none (y_ldsm0 enc_rc rc0 ty_60 rfl (rs_L 0 rfl) (by rw [hrf]; omega) rfl rfl rfl) (fun w h => h) (fun w h => h) rfl (pk_seq (pk_blk (pk_seq (pk_loop (pk_blk (pk_seq pk_fn)))))) (by kernel_rfl) rfl ?_
            refine a_one (i := 8) rfl rfl rfl (tame_call rfl ent_33) (by kernel_rfl) rfl ?_
            refine o_callp rfl ent_33 (c_ref10_Same _ _) rfl ?_
            refine wl_nil ?_
            refine e_one (fun w h => h) ?_
            refine wa_as (t := 92) (.bool true) rfl (congrArg Value.bool (decide_eq_true (by rw [hrf]))) ?_
            refine a_take (i := 9) rfl wanted_none (y_not rfl) (fun w h => h) (fun w h => h) rfl (pk_seq (pk_blk (pk_seq (pk_loop (pk_blk (pk_seq pk_fn)))))) (by kernel_rfl) rfl ?_
            refine a_done (by kernel_rfl) ?_
            refine e_seq ?_
            refine w_cond_f rfl ?_
            refine w_skip ?_
            refine e_blk ?_
            refine e_seq ?_
            refine w_region ?_
            refine o_y (y_move rfl) rfl rfl ?_
            refine o_y (y_addi rfl rfl (by omega) (by omega)) rfl rfl ?_
            refine o_y (y_assign rfl) rfl rfl ?_
            refine wl_nil ?_
            refine e_back (k + 1) ?_ ?_ ⟨rfl, trivial⟩ (by repeat (first | exact trivial | refine ⟨rfl, ?_⟩)) (fun w h => h)
            · omega
            · omega
          · skip
            refine wl_nil ?_
            refine e_seq ?_
            refine w_cond_f rfl ?_
            refine w_exit ?_
            refine e_seq_exit ?_
            refine e_loop_exit ?_
            refine e_blk_hit ?_
            refine e_seq ?_
            refine w_seq ?_
            refine w_region ?_
            refine o_y (y_assign rfl) rfl rfl ?_
            refine wl_nil ?_
            refine e_seq ?_
            refine w_ret ?_
            refine e_ret (ts := [8]) rfl rfl rfl (fun w hw => ?_)
            exact ⟨(), rfl, hw.base, (hw.weak (List.nil_sublist _) (fun s hs => hs)).toNews⟩
  · skip
    refine o_y (y_not rfl) rfl rfl ?_
    refine o_y (y_move rfl) rfl rfl ?_
    refine wl_gno rfl rfl rfl rfl ?_
    refine wl_gno rfl rfl rfl rfl ?_
    refine wl_gno rfl rfl rfl rfl ?_
    refine o_y (y_pick_t rfl rfl) rfl rfl ?_
    refine o_y (y_move rfl) rfl rfl ?_
    refine wl_gno rfl rfl rfl rfl ?_
    refine wl_gno rfl rfl rfl rfl ?_
    refine wl_gno rfl rfl rfl rfl ?_
    refine o_y (y_pick_t rfl rfl) rfl rfl ?_
    refine wl_nil ?_
    refine e_seq ?_
    refine w_cond_t rfl ?_
    refine w_seq ?_
    refine w_region ?_
    refine o_y (y_assign rfl) rfl rfl ?_
    refine wl_nil ?_
    refine e_seq ?_
    refine w_ret ?_
    refine e_seq_ret ?_
    refine e_ret (ts := [8]) rfl rfl rfl (fun w hw => ?_)
    exact ⟨(), rfl, hw.base, (hw.weak (List.nil_sublist _) (fun s hs => hs)).toNews⟩

set_option maxRecDepth 100000 in
theorem c_EntryOwn (e : En) (A B : Option Addr) (c d : Nat) (hok : EnOk e) : RC Try.prog 12 #[.agg (enC e A B c d).toArray] [Ch.rd A 3 adC e.addrs, Ch.rd B 1 enci e.ports] (α := Unit) (fun _ => .bool true) (fun _ => []) := by
  refine rc_of_W (args := [.agg (enC e A B c d).toArray]) 75 Try.func12 rfl rfl rfl (fun w0 => ?_)
  obtain ⟨hok1, hok2, hok3, hok4, hok5, hok6, hok7, hok8, hok9, hok10⟩ := id hok
  have hwa := hok.lo
  have hk := hok2
  refine w_seq ?_
  refine w_region ?_
  refine o_box rfl rfl rfl (fun b1 => ?_)
  refine o_y (y_assign rfl) rfl rfl ?_
  refine wl_nil ?_
  refine e_seq ?_
  refine w_seq ?_
  refine w_seq ?_
  refine w_region ?_
  refine o_callp rfl ent_29 c_lives16 rfl ?_
  refine wl_as (t := 8) (.bool true) rfl (congrArg Value.bool rfl) ?_
  refine o_y (y_not rfl) rfl rfl ?_
  refine wl_nil ?_
  refine e_seq ?_
  refine w_cond_f rfl ?_
  refine w_skip ?_
  refine e_seq ?_
  refine w_seq ?_
  refine w_seq ?_
  refine w_region ?_
  refine o_y (y_loadrs 0 ty_48 rfl rfl rfl rfl) rfl rfl ?_
  refine o_callp rfl ent_30 (c_LightEntry _ _ _ _ _) rfl ?_
  refine wl_splitb (t := 11) rfl (fun h3_1 => ?_) (fun h3_1 => ?_)
  · skip
    obtain ⟨hl1, hl2, hl3, hl4, hl5⟩ := light_le h3_1
    have hfo := foldN_le e.host (by omega)
    refine o_y (y_not rfl) rfl rfl ?_
    refine wl_nil ?_
    refine e_seq ?_
    refine w_cond_f rfl ?_
    refine w_skip ?_
    refine e_seq ?_
    refine w_seq ?_
    refine w_region ?_
    refine o_y (y_loadrs 0 ty_48 rfl rfl rfl rfl) rfl rfl ?_
    refine o_callr2 rfl ent_49 rfl (c_OwnEntry _ _ _ _ _ (by omega) (by omega)) (fun w hw => (rd_cons (rd_S 0 rfl hw) (rd_cons (rd_S 1 rfl hw) rd_nil))) (fun ⟨A1, c1, B1, d1⟩ => ?_)
    refine o_alloc ty_48 rfl rfl (fun b3 => ?_)
    refine o_store ty_48 rfl rfl rfl .z rfl rfl rfl rfl ?_
    refine wl_nil ?_
    refine e_seq ?_
    refine w_seq ?_
    refine w_region ?_
    refine o_y (y_loadrs 3 ty_48 rfl rfl rfl rfl) rfl rfl ?_
    refine o_callr2 rfl ent_41 rfl (c_entry_Copy _ _ _ _ _ (by omega) (by omega)) (fun w hw => (rd_cons (rd_S 0 rfl hw) (rd_cons (rd_S 1 rfl hw) rd_nil))) (fun ⟨A3, c3, B3, d3⟩ => ?_)
    refine o_alloc ty_48 rfl rfl (fun b5 => ?_)
    refine o_store ty_48 rfl rfl rfl .z rfl rfl rfl rfl ?_
    refine wl_nil ?_
    refine e_seq ?_
    refine w_seq ?_
    refine w_seq ?_
    refine w_region ?_
    refine o_y (y_loadrs 0 ty_48 rfl rfl rfl rfl) rfl rfl ?_
    refine o_y (y_loadrs 6 ty_48 rfl rfl rfl rfl) rfl rfl ?_
    refine o_callq rfl ent_42 rfl (c_entry_Same _ _ _ _ _ _ _ _ _ _ (by omega) (by omega)) (fun w hw => (rd_cons (rd_Ls 2 rfl hw) (rd_cons (rd_Ls 1 rfl hw) (rd_cons (rd_S 0 rfl hw) (rd_cons (rd_S 1 rfl hw) rd_nil))))) ?_
    refine wl_as (t := 19) (.bool true) rfl (congrArg Value.bool (decide_eq_true rfl)) ?_
    refine o_y (y_not rfl) rfl rfl ?_
    refine wl_nil ?_
    refine e_seq ?_
    refine w_cond_f rfl ?_
    refine w_skip ?_
    refine e_seq ?_
    refine w_seq ?_
    refine w_seq ?_
    refine w_region ?_
    refine o_y (y_assign rfl) rfl rfl ?_
    refine wl_nil ?_
    refine e_seq ?_
    refine w_block ?_
    refine w_heap (fun w h => h.f2) ?_
    refine w_loop1 (σ := Nat × List Ad) [5, 21, 22, 23, 24, 25, 26, 27, 28, 29, 30, 31, 32, 33, 34, 35, 36] (fun q => q.1 ≤ e.addrs.length ∧ q.2.length = e.addrs.length) (fun q => e.addrs.length - q.1) (fun q => [(5, .int .i64 q.1)]) (fun q => Ch.ls A3 c3 54 3 adC q.2) ((0, e.addrs)) ?_ ⟨rfl, trivial⟩ rfl (fun q hI => ?_)
    · exact ⟨Nat.zero_le _, rfl⟩
    obtain ⟨k, l⟩ := q
    dsimp only at hI ⊢
    refine w_seq ?_
    refine w_seq ?_
    refine w_region ?_
    refine o_y (y_move rfl) rfl rfl ?_
    refine o_y (y_field fa_48_3 rfl) rfl rfl ?_
    refine o_y (y_loadr 1 ty_45 rfl rfl rfl) rfl rfl ?_
    refine o_y (y_lenl Try.underlying45 rfl) rfl rfl ?_
    refine o_y (y_lss rfl rfl) rfl rfl ?_
    refine wl_splitp (t := 25) rfl (fun h10_4 => ?_) (fun h10_4 => ?_)
    · skip
      refine wl_nil ?_
      refine e_seq ?_
      refine w_cond_t rfl ?_
      refine w_skip ?_
      refine e_seq ?_
      refine w_seq ?_
      refine w_block ?_
      refine w_region ?_
      refine o_y (y_field fa_48_3 rfl) rfl rfl ?_
      refine o_y (y_loadr 1 ty_45 rfl rfl rfl) rfl rfl ?_
      refine wl_as (t := 29) (.slice A3 l.length c3) rfl (congrArg (fun n => Value.slice A3 n c3) hI.2.symm) ?_
      refine o_y (y_move rfl) rfl rfl ?_
      refine o_y (y_ixm  Try.underlying45 ty_54 rfl rfl (rs_L 0 rfl) rfl (by omega)) rfl rfl ?_
      refine o_y (y_field fa_54_2 rfl) rfl rfl ?_
      refine o_y (y_ldm 2 enc_ad ad0 ty_24 rfl (rs_L 0 rfl) (by omega) rfl rfl) rfl rfl ?_
      refine o_y (y_add rfl rfl) rfl rfl ?_
      refine o_y (y_ixm  Try.underlying45 ty_54 rfl rfl (rs_L 0 rfl) rfl (by omega)) rfl rfl ?_
      refine o_y (y_field fa_54_2 rfl) rfl rfl ?_
      refine o_stm 2 enc_ad ad0 { l.getD k ad0 with lo := IntKind.u64.wrap ((l.getD k ad0).lo + 1) } ty_24 rfl rfl rfl .z rfl (by omega) rfl rfl rfl ?_
      refine wl_nil ?_
      refine e_blk ?_
      refine e_seq ?_
      refine w_region ?_
      refine o_y (y_move rfl) rfl rfl ?_
      refine o_y (y_addi rfl rfl (by omega) (by omega)) rfl rfl ?_
      refine o_y (y_assign rfl) rfl rfl ?_
      refine wl_nil ?_
      refine e_back ((k + 1, l.set k { l.getD k ad0 with lo := IntKind.u64.wrap ((l.getD k ad0).lo + 1) })) ?_ ?_ ⟨rfl, trivial⟩ (by repeat (first | exact trivial | refine ⟨rfl, ?_⟩)) (fun w h => h)
      · exact ⟨by show k + 1 ≤ _; omega, by show (l.set _ _).length = _; rw [List.length_set]; exact hI.2⟩
      · show e.addrs.length - (k + 1) < e.addrs.length - k
        omega
    · skip
      refine wl_nil ?_
      refine e_seq ?_
      refine w_cond_f rfl ?_
      refine w_exit ?_
      refine e_seq_exit ?_
      refine e_loop_exit ?_
      refine e_blk_hit ?_
      refine e_seq ?_
      refine w_seq ?_
      refine w_seq ?_
      refine w_region ?_
      refine o_y (y_assign rfl) rfl rfl ?_
      refine wl_nil ?_
      refine e_seq ?_
      refine w_block ?_
      refine w_heap (fun w h => h.f2) ?_
      refine w_loop1 (σ := Nat × List Int) [6, 37, 38, 39, 40, 41, 42, 43, 44, 45, 46, 47, 48, 49, 50] (fun q => q.1 ≤ e.ports.length ∧ q.2.length = e.ports.length) (fun q => e.ports.length - q.1) (fun q => [(6, .int .i64 q.1)]) (fun q => Ch.ls B3 d3 3 1 enci q.2) ((0, e.ports)) ?_ ⟨rfl, trivial⟩ rfl (fun q hI => ?_)
      · exact ⟨Nat.zero_le _, rfl⟩
      obtain ⟨k2, l2⟩ := q
      dsimp only at hI ⊢
      refine w_seq ?_
      refine w_seq ?_
      refine w_region ?_
      refine o_y (y_move rfl) rfl rfl ?_
      refine o_y (y_field fa_48_5 rfl) rfl rfl ?_
      refine o_y (y_loadr 2 ty_34 rfl rfl rfl) rfl rfl ?_
      refine o_y (y_lenl Try.underlying34 rfl) rfl rfl ?_
      refine o_y (y_lss rfl rfl) rfl rfl ?_
      refine wl_splitp (t := 41) rfl (fun h14_4 => ?_) (fun h14_4 => ?_)
      · skip
        refine wl_nil ?_
        refine e_seq ?_
        refine w_cond_t rfl ?_
        refine w_skip ?_
        refine e_seq ?_
        refine w_seq ?_
        refine w_block ?_
        refine w_region ?_
        refine o_y (y_field fa_48_5 rfl) rfl rfl ?_
        refine o_y (y_loadr 2 ty_34 rfl rfl rfl) rfl rfl ?_
        refine wl_as (t := 45) (.slice B3 l2.length d3) rfl (congrArg (fun n => Value.slice B3 n d3) hI.2.symm) ?_
        refine o_y (y_move rfl) rfl rfl ?_
        refine o_y (y_ixm  Try.underlying34 ty_3 rfl rfl (rs_L 0 rfl) rfl (by omega)) rfl rfl ?_
        refine o_y (y_ldm0 enc_i (0 : Int) ty_3 rfl (rs_L 0 rfl) (by omega) rfl rfl) rfl rfl ?_
        refine o_y (y_add rfl rfl) rfl rfl ?_
        refine o_y (y_ixm  Try.underlying34 ty_3 rfl rfl (rs_L 0 rfl) rfl (by omega)) rfl rfl ?_
        refine o_stm0 enc_i (0 : Int) (IntKind.i64.wrap (l2.getD k2 0 + 1)) ty_3 rfl rfl rfl .z rfl (by omega) rfl rfl rfl ?_
        refine wl_nil ?_
        refine e_blk ?_
        refine e_seq ?_
        refine w_region ?_
        refine o_y (y_move rfl) rfl rfl ?_
        refine o_y (y_addi rfl rfl (by omega) (by omega)) rfl rfl ?_
        refine o_y (y_assign rfl) rfl rfl ?_
        refine wl_nil ?_
        refine e_back ((k2 + 1, l2.set k2 (IntKind.i64.wrap (l2.getD k2 0 + 1)))) ?_ ?_ ⟨rfl, trivial⟩ (by repeat (first | exact trivial | refine ⟨rfl, ?_⟩)) (fun w h => h)
        · exact ⟨by show k2 + 1 ≤ _; omega, by show (l2.set _ _).length = _; rw [List.length_set]; exact hI.2⟩
        · show e.ports.length - (k2 + 1) < e.ports.length - k2
          omega
      · skip
        refine wl_nil ?_
        refine e_seq ?_
        refine w_cond_f rfl ?_
        refine w_exit ?_
        refine e_seq_exit ?_
        refine e_loop_exit ?_
        refine e_blk_hit ?_
        refine e_seq ?_
        refine w_seq ?_
        refine w_region ?_
        refine o_y (y_loadrs 6 ty_48 rfl rfl rfl rfl) rfl rfl ?_
        refine o_alloc ty_48 rfl rfl (fun b6 => ?_)
        refine o_store ty_48 rfl rfl rfl .z rfl rfl rfl rfl ?_
        refine wl_nil ?_
        refine e_seq ?_
        refine w_seq ?_
        refine w_region ?_
        refine o_y (y_loadrs 7 ty_48 rfl rfl rfl rfl) rfl rfl ?_
        refine o_callp rfl ent_38 (c_entry_Key _ _ _ _ _ (by omega)) rfl ?_
        refine o_y (y_field fa_48_0 rfl) rfl rfl ?_
        refine o_store ty_22 rfl rfl rfl .z rfl rfl rfl rfl ?_
        refine wl_nil ?_
        refine e_seq ?_
        refine w_seq ?_
        refine w_draw 21 rfl mixed ?_
        refine a_take (i := 0) rfl wanted_none (y_loadrs 7 ty_48 rfl rfl rfl rfl) (fun w h => h) (fun w h => h) rfl (pk_seq pk_fn) (by kernel_rfl) rfl ?_
        refine a_take (i := 1) rfl wanted_none (y_loadrs 4 ty_48 rfl rfl rfl rfl) (fun w h => h) (fun w h => h) rfl (pk_seq pk_fn) (by kernel_rfl) rfl ?_
        refine a_one (i := 2) rfl rfl rfl (tame_call rfl ent_42) (by kernel_rfl) rfl ?_
        refine o_callq rfl ent_42 rfl (c_entry_Same _ _ _ _ _ _ _ _ _ _ (by omega) (by omega)) (fun w hw => (rd_cons (rd_S 0 rfl hw) (rd_cons (rd_S 1 rfl hw) (rd_cons (rd_Ls 6 rfl hw) (rd_cons (rd_Ls 5 rfl hw) rd_nil))))) ?_
        refine wl_nil ?_
        refine e_one (fun w h => h) ?_
        refine wa_as (t := 57) (.bool true) rfl (congrArg Value.bool (decide_eq_true rfl)) ?_
        refine a_take (i := 3) rfl wanted_none (y_move rfl) (fun w h => h) (fun w h => h) rfl (pk_seq pk_fn) (by kernel_rfl) rfl ?_
        refine a_take (i := 4) rfl (wanted_yes rfl rfl) (y_loadrs 7 ty_48 rfl rfl rfl rfl) (fun w h => h) (fun w h => h) rfl (pk_seq pk_fn) (by kernel_rfl) rfl ?_
        refine a_one (i := 5) rfl rfl rfl (tame_call rfl ent_34) (by kernel_rfl) rfl ?_
        refine wl_gyes rfl rfl ?_
        refine o_callq rfl ent_34 rfl (c_entry_Check _ _ _ _ _ hwa (by omega) (by omega) hk) (fun w hw => (rd_cons (rd_S 0 rfl hw) (rd_cons (rd_S 1 rfl hw) rd_nil))) ?_
        refine wl_nil ?_
        refine e_one (fun w h => h) ?_
        refine a_take (i := 6) rfl (wanted_yes rfl rfl) (y_neq rfl rfl) (fun w h => h) (fun w h => h) rfl (pk_seq pk_fn) (by kernel_rfl) rfl ?_
        refine wa_splitp (t := 61) rfl (fun h19_6 => ?_) (fun h19_6 => ?_)
        · skip
          refine a_take (i := 7) rfl (wanted_yes rfl rfl) (y_move rfl) (fun w h => h) (fun w h => h) rfl (pk_seq pk_fn) (by kernel_rfl) rfl ?_
          refine a_skip (i := 8) rfl (wanted_no rfl rfl rfl) (fun w h => h) rfl (pk_seq pk_fn) (by kernel_rfl) rfl ?_
          refine a_skip (i := 9) rfl (wanted_no rfl rfl rfl) (fun w h => h) rfl (pk_seq pk_fn) (by kernel_rfl) rfl ?_
          refine a_skip (i := 10) rfl (wanted_no rfl rfl rfl) (fun w h => h) rfl (pk_seq pk_fn) (by kernel_rfl) rfl ?_
          refine a_skip (i := 11) rfl (wanted_no rfl rfl rfl) (fun w h => h) rfl (pk_seq pk_fn) (by kernel_rfl) rfl ?_
          refine a_skip (i := 12) rfl (wanted_nou rfl rfl) (fun w h => h) rfl (pk_seq pk_fn) (by kernel_rfl) rfl ?_
          refine a_skip (i := 14) rfl (wanted_nou rfl rfl) (fun w h => h) rfl (pk_seq pk_fn) (by kernel_rfl) rfl ?_
          refine a_skip (i := 13) rfl (wanted_nou rfl rfl) (fun w h => h) rfl (pk_seq pk_fn) (by kernel_rfl) rfl ?_
          refine a_skip (i := 15) rfl (wanted_nou rfl rfl) (fun w h => h) rfl (pk_seq pk_fn) (by kernel_rfl) rfl ?_
          refine a_skip (i := 16) rfl (wanted_nou rfl rfl) (fun w h => h) rfl (pk_seq pk_fn) (by kernel_rfl) rfl ?_
          refine a_skip (i := 17) rfl (wanted_no rfl rfl rfl) (fun w h => h) rfl (pk_seq pk_fn) (by kernel_rfl) rfl ?_
          refine a_take (i := 18) rfl (wanted_yes rfl rfl) (y_pick_t rfl rfl) (fun w h => h) (fun w h => h) rfl (pk_seq pk_fn) (by kernel_rfl) rfl ?_
          refine a_take (i := 19) rfl wanted_none (y_pick_t rfl rfl) (fun w h => h) (fun w h => h) rfl (pk_seq pk_fn) (by kernel_rfl) rfl ?_
          refine a_take (i := 20) rfl wanted_none (y_assign rfl) (fun w h => h) (fun w h => h) rfl (pk_seq pk_fn) (by kernel_rfl) rfl ?_
          refine a_done (by kernel_rfl) ?_
          refine e_seq ?_
          refine w_ret ?_
          refine e_ret (ts := [2]) rfl rfl rfl (fun w hw => ?_)
          first
            | exact ⟨(), rfl, hw.base, (hw.weak (List.nil_sublist _) (fun s hs => hs)).toNews⟩
            | (trace_state; fail)
        · skip
          refine a_take (i := 7) rfl (wanted_yes rfl rfl) (y_move rfl) (fun w h => h) (fun w h => h) rfl (pk_seq pk_fn) (by kernel_rfl) rfl ?_
          refine a_take (i := 8) rfl (wanted_yes rfl rfl) (y_loadrs 0 ty_48 rfl rfl rfl rfl) (fun w h => h) (fun w h => h) rfl (pk_seq pk_fn) (by kernel_rfl) rfl ?_
          refine a_one (i := 9) rfl rfl rfl (tame_call rfl ent_34) (by kernel_rfl) rfl ?_
          refine wl_gyes rfl rfl ?_
          refine o_callq rfl ent_34 rfl (c_entry_Check { e with host := foldN e.host } _ _ _ _ hwa (show e.addrs.length ≤ _ by omega) (show e.ports.length ≤ _ by omega) hk) (fun w hw => (rd_cons (rd_S 0 rfl hw) (rd_cons (rd_S 1 rfl hw) rd_nil))) ?_
          refine wl_nil ?_
          refine e_one (fun w h => h) ?_
          refine a_take (i := 10) rfl (wanted_yes rfl rfl) (y_eql rfl rfl) (fun w h => h) (fun w h => h) rfl (pk_seq pk_fn) (by kernel_rfl) rfl ?_
          refine wa_at (t := 65) rfl (by rw [entCk_fold (ck_host (by omega))]; omega) ?_
          refine a_take (i := 11) rfl (wanted_yes rfl rfl) (y_move rfl) (fun w h => h) (fun w h => h) rfl (pk_seq pk_fn) (by kernel_rfl) rfl ?_
          refine a_take (i := 12) rfl (wanted_yes rfl rfl) (y_loadrs 0 ty_48 rfl rfl rfl rfl) (fun w h => h) (fun w h => h) rfl (pk_seq pk_fn) (by kernel_rfl) rfl ?_
          refine a_take (i := 14) rfl (wanted_yes rfl rfl) (y_loadrs 7 ty_48 rfl rfl rfl rfl) (fun w h => h) (fun w h => h) rfl (pk_seq pk_fn) (by kernel_rfl) rfl ?_
          refine a_one (i := 13) rfl rfl rfl (tame_call rfl ent_38) (by kernel_rfl) rfl ?_
          refine wl_gyes rfl rfl ?_
          refine o_callp rfl ent_38 (c_entry_Key { e with host := foldN e.host } _ _ _ _ (show (foldN e.host).length ≤ _ by omega)) rfl ?_
          refine wl_nil ?_
          refine e_one (fun w h => h) ?_
          refine a_one (i := 15) rfl rfl rfl (tame_call rfl ent_38) (by kernel_rfl) rfl ?_
          refine wl_gyes rfl rfl ?_
          refine o_callp rfl ent_38 (c_entry_Key _ _ _ _ _ (by omega)) rfl ?_
          refine wl_nil ?_
          refine e_one (fun w h => h) ?_
          refine a_take (i := 16) rfl (wanted_yes rfl rfl) (y_eqls rfl rfl) (fun w h => h) (fun w h => h) rfl (pk_seq pk_fn) (by kernel_rfl) rfl ?_
          refine wa_at (t := 71) rfl (foldN_foldN (ck_host (by omega))) ?_
          refine a_take (i := 17) rfl (wanted_yes rfl rfl) (y_pick_t rfl rfl) (fun w h => h) (fun w h => h) rfl (pk_seq pk_fn) (by kernel_rfl) rfl ?_
          refine a_take (i := 18) rfl (wanted_yes rfl rfl) (y_pick_f rfl rfl) (fun w h => h) (fun w h => h) rfl (pk_seq pk_fn) (by kernel_rfl) rfl ?_
          refine a_take (i := 19) rfl wanted_none (y_pick_t rfl rfl) (fun w h => h) (fun w h => h) rfl (pk_seq pk_fn) (by kernel_rfl) rfl ?_
          refine a_take (i := 20) rfl wanted_none (y_assign rfl) (fun w h => h) (fun w h => h) rfl (pk_seq pk_fn) (by kernel_rfl) rfl ?_
          refine a_done (by kernel_rfl) ?_
          refine e_seq ?_
          refine w_ret ?_
          refine e_ret (ts := [2]) rfl rfl rfl (fun w hw => ?_)
          first
            | exact ⟨(), rfl, hw.base, (hw.weak (List.nil_sublist _) (fun s hs => hs)).toNews⟩
            | (trace_state; fail)
  · skip
    refine o_y (y_not rfl) rfl rfl ?_
    refine wl_nil ?_
    refine e_seq ?_
    refine w_cond_t rfl ?_
    refine w_seq ?_
    refine w_region ?_
    refine o_y (y_assign rfl) rfl rfl ?_
    refine wl_nil ?_
    refine e_seq ?_
    refine w_ret ?_
    refine e_seq_ret ?_
    refine e_ret (ts := [2]) rfl rfl rfl (fun w hw => ?_)
    first
      | exact ⟨(), rfl, hw.base, (hw.weak (List.nil_sublist _) (fun s hs => hs)).toNews⟩
      | (trace_state; fail)
end Go.Proofs.Ytahpppncjbgpaaa
