import Derived.Test.YtnpdgmoeoidppaaGreatRows
import Derived.Test.YtnpdgmoeoidppaaGreatVtQf
import Derived.Test.YtnpdgmoeoidppaaGreatCiQf
/- VipsHolds: its row holds: whatever the input, the law answers true and the input reads as it did -/
namespace Go.Proofs.YtnpdgmoeoidppaaGreat
open Go.RowKit Go.Shelf
set_option linter.unusedVariables false

open Go.ChangeShapes Go.WideShapes Go.ChangeAt
set_option maxRecDepth 100000 in
theorem vipsHolds_lifted (os : Os) (started : os.Started) (H : Type) (enc : TypeId × Value → H) :
    ReturnsInHanded {} Tryz.checked os 6 .any (Rows.vipsHoldsSpec.pre6 enc Tryz.prog Tryz.f6 Rows.vipsHoldsRow.domain false) (Rows.vipsHoldsSpec.post enc Tryz.prog Tryz.f6 false true false false) := by
  refine returnsInHanded_of_change (C := Tryz.checked) (by kernel_rfl) started (by kernel_rfl) Tryz.func6
    (ChangeSpec.witness6 (enc := enc) (C := Tryz.checked) false ⟨#[], #[.agg #[.bool false, .int .u64 0, .int .u64 0, .int .i64 0, .slice none 0 0], .slice none 0 0], []⟩ 8 (by kernel_rfl) (by kernel_rfl) (by kernel_rfl) (by kernel_rfl)) ?_
  intro W base args ds gs before hval0 hW hcnd _
  have hval : ∀ (j : Nat) t v, Tryz.f6.params[j]? = some t → args[j]? = some v → Value.okWide Tryz.prog W .any base t v := hval0
  have hW' := hW
  obtain ⟨p, q, hA0, hV, rfl, hfz, hnd⟩ := hW
  have hA : DataW.TrodAll enc Tryz.prog W 0 (fun _ => true) true Tryz.f6.params.toList args.toList ds p := hA0
  rw [Tryz.params6] at hA hval
  obtain ⟨v0, v1, d0, d1, p0, p1, rfl, rfl, rfl, h0, h1⟩ := trodAll_two hA
  obtain ⟨rfl, rfl⟩ := trodVars_none hV
  obtain ⟨⟨rg, res, A, c⟩, rfl, hr0, ho0⟩ := op_agg Tryz.underlying67 (hval 0 67 v0 rfl rfl) h0 dc_pl
  obtain ⟨⟨rows, R, rc⟩, hv1, hr1, ho1⟩ := op_slice Tryz.underlying83 (hval 1 83 v1 rfl rfl) h1 dc_nrs (fun _ => rfl)
  obtain rfl := (List.cons.inj hv1).1
  refine bM (c_VipsHolds rg res A c ho0.1 ho0.2.2 ho0.2.1 rows R rc ho1.1 ho1.2 W (aP (hr0 _ (.head _)) (aP (hr1 _ (.head _)) (aP (rd_rall (fun s hs => hr1 s (.tail _ hs))) a8)))) fun e W' ⟨_, he, hw, _⟩ => ?_
  subst he
  exact ⟨_, rfl, law_post (by kernel_rfl) (by kernel_rfl) rfl hW' rfl (by kernel_rfl) Tryz.underlying4 hw⟩
theorem vipsHolds_holds : Rows.VipsHoldsSaid :=
  OpenClaim.holds_of_wide 6 Tryz.f6 rfl rfl rfl rfl rfl rfl rfl ⟨rfl, rfl, rfl, rfl, rfl⟩ rfl rfl rfl rfl rfl (by kernel_rfl) Tryz.func6 (by kernel_rfl)
    (of_decide_eq_true (by kernel_rfl)) (by unfold Func.isWrapper; first | (rw [if_pos (by decide +kernel)]; kernel_rfl) | (rw [if_neg (by decide +kernel)]; exact ⟨rfl, rfl⟩))
    (fun os started H enc _ => vipsHolds_lifted os started H enc)
#print axioms vipsHolds_holds
end Go.Proofs.YtnpdgmoeoidppaaGreat
