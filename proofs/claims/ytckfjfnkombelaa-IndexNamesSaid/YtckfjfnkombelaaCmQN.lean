/- the reference of entries; the law of calls -/
import Derived.Test.YtckfjfnkombelaaClQN
namespace Go.Proofs.Ytckfjfnkombelaa
open Go.RowKit Go.Shelf
set_option linter.unusedVariables false
set_option linter.unusedSimpArgs false

theorem ent_22 : Enters Try.prog 22 := enters_of Try.func22 (by kernel_rfl) rfl

theorem c_ref16_Key (e : En) (A B : Option Addr) (c d : Nat) (hn : e.host.length ≤ 1000000000) : Pure Try.prog 86 #[.agg (enC e A B c d).toArray] (.string (ba (foldN e.host))) := by
  intro w0
  refine calls_of_W (ok0 := no) (S := []) (args := [.agg (enC e A B c d).toArray]) 6 Try.func86 rfl rfl rfl (by simp) (by simp) ?_
  refine w_seq ?_
  refine w_region ?_
  refine o_box rfl rfl rfl (fun b1 => ?_)
  refine o_y (y_assign rfl) rfl rfl ?_
  refine wl_nil ?_
  refine e_seq ?_
  refine w_seq ?_
  refine w_region ?_
  refine o_y (y_field fa_50_0 rfl) rfl rfl ?_
  refine o_y (y_loadr 0 ty_25 rfl rfl rfl) rfl rfl ?_
  refine o_callp rfl ent_22 (p_ref02_Fold _ (by omega)) rfl ?_
  refine o_y (y_assign rfl) rfl rfl ?_
  refine wl_nil ?_
  refine e_seq ?_
  refine w_ret ?_
  refine e_ret (ts := [2]) rfl rfl rfl (fun w hw => ?_)
  exact ⟨rfl, hw.base⟩

end Go.Proofs.Ytckfjfnkombelaa
