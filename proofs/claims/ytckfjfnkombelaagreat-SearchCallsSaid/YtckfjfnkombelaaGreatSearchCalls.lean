/- SearchCalls: its row holds: whatever the input, the law answers true and the input reads as it did -/
import Derived.Test.YtckfjfnkombelaaGreatRows
import Derived.Test.YtckfjfnkombelaaGreatIg
import Derived.Test.YtckfjfnkombelaaGreatLk
namespace Go.Proofs.YtckfjfnkombelaaGreat
open Go.RowKit Go.Shelf
set_option linter.unusedVariables false

open Go.ChangeShapes Go.WideShapes Go.ChangeAt
set_option maxRecDepth 100000 in
theorem searchCalls_lifted (os : Os) (started : os.Started) (H : Type) (enc : TypeId × Value → H) :
    ReturnsInHanded {} Tryz.checked os 5 .any (Rows.searchCallsSpec.pre6 enc Tryz.prog Tryz.f5 Rows.searchCallsRow.domain false) (Rows.searchCallsSpec.post enc Tryz.prog Tryz.f5 false true false false) := by
  refine returnsInHanded_of_change (C := Tryz.checked) (by kernel_rfl) started (by kernel_rfl) Tryz.func5
    (ChangeSpec.witness6 (enc := enc) (C := Tryz.checked) false ⟨#[], #[.agg #[.int .i64 0, .slice none 0 0], .string .empty, .agg #[.int .i64 0, .slice none 0 0]], []⟩ 8 (by kernel_rfl) (by kernel_rfl) (by kernel_rfl) (by kernel_rfl)) ?_
  intro W base args ds gs before hval0 hW hcnd _
  have hval : ∀ (j : Nat) t v, Tryz.f5.params[j]? = some t → args[j]? = some v → Value.okWide Tryz.prog W .any base t v := hval0
  have hW' := hW
  obtain ⟨p, q, hA0, hV, rfl, hfz, hnd⟩ := hW
  have hA : DataW.TrodAll enc Tryz.prog W 0 (fun _ => true) true Tryz.f5.params.toList args.toList ds p := hA0
  rw [Tryz.params5] at hA hval
  obtain ⟨v0, v1, v2, d0, d1, d2, p0, p1, p2, rfl, rfl, rfl, h0, h1, h2⟩ := trodAll_three hA
  obtain ⟨rfl, rfl⟩ := trodVars_none hV
  obtain ⟨⟨s, A, c⟩, rfl, hr0, ho0⟩ := op_agg Tryz.underlying82 (hval 0 82 v0 rfl rfl) h0 dc_sr
  obtain ⟨n, rfl, hnl⟩ := op_str Tryz.underlying26 (hval 1 26 v1 rfl rfl)
  obtain ⟨⟨v, l, F, d⟩, rfl, hr2, ho2⟩ := op_agg Tryz.underlying24 (hval 2 24 v2 rfl rfl) h2 dc_tb
  refine calls_mono (c_SearchCalls s A c n v l F d ho0 hnl ho2.2 ho2.1 W (rd_cons (hr0 _ (.head _)) (rd_cons (hr2 _ (.head _)) (rd_cons (hr2 _ (.tail _ (.head _))) rd_nil)))) fun e W' ⟨_, he, hw, _⟩ => ?_
  subst he
  exact ⟨_, rfl, law_post (by kernel_rfl) (by kernel_rfl) rfl hW' rfl (by kernel_rfl) Tryz.underlying4 hw⟩
theorem searchCalls_holds : Rows.SearchCallsSaid :=
  OpenClaim.holds_of_wide 5 Tryz.f5 rfl rfl rfl rfl rfl rfl rfl ⟨rfl, rfl, rfl, rfl, rfl⟩ rfl rfl rfl rfl rfl (by kernel_rfl) Tryz.func5 (by kernel_rfl)
    (of_decide_eq_true (by kernel_rfl)) (by unfold Func.isWrapper; first | (rw [if_pos (by decide +kernel)]; kernel_rfl) | (rw [if_neg (by decide +kernel)]; exact ⟨rfl, rfl⟩))
    (fun os started H enc _ => searchCalls_lifted os started H enc)
#print axioms searchCalls_holds
end Go.Proofs.YtckfjfnkombelaaGreat
