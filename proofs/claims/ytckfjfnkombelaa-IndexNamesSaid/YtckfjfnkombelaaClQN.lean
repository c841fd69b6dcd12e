/- copies of entries; the laws of folded hosts and of copies -/
import Derived.Test.YtckfjfnkombelaaCkQN
namespace Go.Proofs.Ytckfjfnkombelaa
open Go.RowKit Go.Shelf
set_option linter.unusedVariables false
set_option linter.unusedSimpArgs false

theorem ent_103 : Enters Try.prog 103 := enters_of Try.func103 (by kernel_rfl) rfl
set_option maxRecDepth 100000 in
theorem c_entry_Copy (e : En) (A B : Option Addr) (c d : Nat) (hla : e.addrs.length ≤ 1000000000000) (hlp : e.ports.length ≤ 1000000000000) : RC Try.prog 65 #[.agg (enC e A B c d).toArray] [Ch.rd A 3 adC e.addrs, Ch.rd B 1 enci e.ports] (α := Option Addr × Nat × Option Addr × Nat) (fun p => .agg (enC e p.1 p.2.2.1 p.2.1 p.2.2.2).toArray) (fun p => [Ch.ls p.2.2.1 p.2.2.2 3 1 enci (e).ports, Ch.ls p.1 p.2.1 66 3 adC (e).addrs]) := by
  refine rc_of_W (args := [.agg (enC e A B c d).toArray]) 12 Try.func65 rfl rfl rfl (fun w0 => ?_)
  refine w_seq ?_
  refine w_region ?_
  refine o_box rfl rfl rfl (fun b1 => ?_)
  refine o_alloc ty_50 rfl rfl (fun b2 => ?_)
  refine wl_nil ?_
  refine e_seq ?_
  refine w_seq ?_
  refine w_draw 7 rfl mixed ?_
  refine a_take (i := 0) rfl wanted_none (y_field fa_50_3 rfl) (fun w h => h) (fun w h => h) rfl (pk_seq pk_fn) (by kernel_rfl) rfl ?_
  refine a_take (i := 1) rfl wanted_none (y_loadr 1 ty_46 rfl rfl rfl) (fun w h => h) (fun w h => h) rfl (pk_seq pk_fn) (by kernel_rfl) rfl ?_
  refine a_take (i := 3) rfl wanted_none (y_field fa_50_5 rfl) (fun w h => h) (fun w h => h) rfl (pk_seq pk_fn) (by kernel_rfl) rfl ?_
  refine a_take (i := 4) rfl wanted_none (y_loadr 1 ty_47 rfl rfl rfl) (fun w h => h) (fun w h => h) rfl (pk_seq pk_fn) (by kernel_rfl) rfl ?_
  refine a_one (i := 2) rfl rfl rfl (tame_call rfl ent_102) (by kernel_rfl) rfl ?_
  refine o_callr1 rfl ent_102 rfl (c_Clone_ad _ _ _ (by omega)) (fun w hw => (rd_cons (rd_S 0 rfl hw) rd_nil)) (fun ⟨A2, c2⟩ => ?_)
  refine wl_nil ?_
  refine e_one (fun w h => h.weak (.cons _ (List.Sublist.refl _)) (fun s hs => hs)) ?_
  refine a_take (i := 6) rfl wanted_none (y_field fa_50_3 rfl) (fun w h => h.weak (.cons _ (List.Sublist.refl _)) (fun s hs => hs)) (fun w h => h) rfl (pk_seq pk_fn) (by kernel_rfl) rfl ?_
  refine a_one (i := 5) rfl rfl rfl (tame_call rfl ent_103) (by kernel_rfl) rfl ?_
  refine o_callr1 rfl ent_103 rfl (c_Clone_int _ _ _ (by omega)) (fun w hw => (rd_cons (rd_S 1 rfl hw) rd_nil)) (fun ⟨A3, c3⟩ => ?_)
  refine wl_nil ?_
  refine e_one (fun w h => h.weak (.cons _ (.cons _ (List.Sublist.refl _))) (fun s hs => hs)) ?_
  refine a_one (i := 7) rfl rfl rfl (fun _ _ _ => tame_op (by kernel_rfl)) (by kernel_rfl) rfl ?_
  refine o_store ty_46 rfl rfl rfl (.s (.s (.s (.z)))) rfl rfl rfl rfl ?_
  refine wl_nil ?_
  refine e_tail rfl ?_
  refine a_one (i := 8) rfl rfl rfl (fun _ _ _ => tame_op (by kernel_rfl)) (by kernel_rfl) rfl ?_
  refine o_y (y_field fa_50_5 rfl) rfl rfl ?_
  refine wl_nil ?_
  refine e_tail rfl ?_
  refine a_one (i := 9) rfl rfl rfl (fun _ _ _ => tame_op (by kernel_rfl)) (by kernel_rfl) rfl ?_
  refine o_store ty_47 rfl rfl rfl (.s (.s (.s (.z)))) rfl rfl rfl rfl ?_
  refine wl_nil ?_
  refine e_tail rfl ?_
  refine a_done (by kernel_rfl) ?_
  refine e_seq ?_
  refine w_seq ?_
  refine w_region ?_
  refine o_y (y_loadrs 3 ty_50 rfl rfl rfl rfl) rfl rfl ?_
  refine o_store ty_50 rfl rfl rfl (.s (.s (.z))) rfl rfl rfl rfl ?_
  refine wl_nil ?_
  refine e_seq ?_
  refine w_ret ?_
  refine e_rsr (rs := [.cell 2 50]) rfl (rs_cells 2 ty_50 rfl rfl rfl rfl rs_nil) rfl (fun w hw => ?_)
  exact ⟨⟨A2, c2, A3, c3⟩, rfl, hw.base, (hw.weak (.cons_cons _ (.cons_cons _ (.cons _ (.cons _ .slnil)))) (fun s hs => hs)).toNews⟩

end Go.Proofs.Ytckfjfnkombelaa
