import Derived.Test.YtfmelbpgkbiooaaGreatRows
import Derived.Test.YtfmelbpgkbiooaaGreatRdS
import Derived.Test.YtfmelbpgkbiooaaGreatPfS
/- RouteFixed: its row holds: whatever the input, the law answers true and the input reads as it did -/
namespace Go.Proofs.YtfmelbpgkbiooaaGreat
open Go.RowKit Go.Shelf
set_option linter.unusedVariables false

open Go.ChangeShapes Go.WideShapes Go.ChangeAt
set_option maxRecDepth 100000 in
theorem routeFixed_lifted (os : Os) (started : os.Started) (H : Type) (enc : TypeId × Value → H) :
    ReturnsInHanded {} Tryz.checked os 4 .any (Rows.routeFixedSpec.pre6 enc Tryz.prog Tryz.f4 Rows.routeFixedRow.domain false) (Rows.routeFixedSpec.post enc Tryz.prog Tryz.f4 false true false false) := by
  refine returnsInHanded_of_change (C := Tryz.checked) (by kernel_rfl) started (by kernel_rfl) Tryz.func4
    (ChangeSpec.witness6 (enc := enc) (C := Tryz.checked) false ⟨#[], #[.agg #[.int .i64 0, .slice none 0 0], .agg #[.bool false, .int .u64 0, .int .u64 0]], []⟩ 8 (by kernel_rfl) (by kernel_rfl) (by kernel_rfl) (by kernel_rfl)) ?_
  intro W base args ds gs before hval0 hW hcnd _
  have hval : ∀ (j : Nat) t v, Tryz.f4.params[j]? = some t → args[j]? = some v → Value.okWide Tryz.prog W .any base t v := hval0
  have hW' := hW
  obtain ⟨p, q, hA0, hV, rfl, hfz, hnd⟩ := hW
  have hA : DataW.TrodAll enc Tryz.prog W 0 (fun _ => true) true Tryz.f4.params.toList args.toList ds p := hA0
  rw [Tryz.params4] at hA hval
  obtain ⟨v0, v1, d0, d1, p0, p1, rfl, rfl, rfl, h0, h1⟩ := trodAll_two hA
  obtain ⟨rfl, rfl⟩ := trodVars_none hV
  obtain ⟨⟨v, l, F, d⟩, rfl, hr0, ho0⟩ := op_agg Tryz.underlying24 (hval 0 24 v0 rfl rfl) h0 dc_tb
  obtain ⟨a, rfl, hr1, ho1⟩ := op_agg Tryz.underlying28 (hval 1 28 v1 rfl rfl) h1 dc_ad
  refine calls_mono (c_RouteFixed v l F d a ho0.2 ho0.1 W (rd_cons (hr0 _ (.head _)) (rd_cons (hr0 _ (.tail _ (.head _))) rd_nil))) fun e W' ⟨_, he, hw, _⟩ => ?_
  subst he
  exact ⟨_, rfl, law_post (by kernel_rfl) (by kernel_rfl) rfl hW' rfl (by kernel_rfl) Tryz.underlying4 hw⟩
theorem routeFixed_holds : Rows.RouteFixedSaid :=
  OpenClaim.holds_of_wide 4 Tryz.f4 rfl rfl rfl rfl rfl rfl rfl ⟨rfl, rfl, rfl, rfl, rfl⟩ rfl rfl rfl rfl rfl (by kernel_rfl) Tryz.func4 (by kernel_rfl)
    (of_decide_eq_true (by kernel_rfl)) (by unfold Func.isWrapper; first | (rw [if_pos (by decide +kernel)]; kernel_rfl) | (rw [if_neg (by decide +kernel)]; exact ⟨rfl, rfl⟩))
    (fun os started H enc _ => routeFixed_lifted os started H enc)
#print axioms routeFixed_holds
end Go.Proofs.YtfmelbpgkbiooaaGreat
