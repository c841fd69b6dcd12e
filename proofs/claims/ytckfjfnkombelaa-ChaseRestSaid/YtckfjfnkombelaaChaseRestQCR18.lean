/- ChaseRest: its row holds: whatever the input, the law answers true and the input reads as it did -/
import Derived.Test.YtckfjfnkombelaaRows
import Derived.Test.YtckfjfnkombelaaHdQCR18
import Derived.Test.YtckfjfnkombelaaLkQCR18
namespace Go.Proofs.Ytckfjfnkombelaa
open Go.RowKit Go.Shelf
set_option linter.unusedVariables false

open Go.ChangeShapes Go.WideShapes Go.ChangeAt
set_option maxRecDepth 100000 in
theorem chaseRest_lifted (os : Os) (started : os.Started) (H : Type) (enc : TypeId × Value → H) :
    ReturnsInHanded {} Try.checked os 5 .any (Rows.chaseRestSpec.pre6 enc Try.prog Try.f5 Rows.chaseRestRow.domain false) (Rows.chaseRestSpec.post enc Try.prog Try.f5 false true false false) := by
  refine returnsInHanded_of_change (C := Try.checked) (by kernel_rfl) started (by kernel_rfl) Try.func5
    (ChangeSpec.witness6 (enc := enc) (C := Try.checked) false ⟨#[], #[.agg #[.int .i64 0, .slice none 0 0], .string .empty, .int .i64 0], []⟩ 8 (by kernel_rfl) (by kernel_rfl) (by kernel_rfl) (by kernel_rfl)) ?_
  intro W base args ds gs before hval0 hW hcnd _
  have hval : ∀ (j : Nat) t v, Try.f5.params[j]? = some t → args[j]? = some v → Value.okWide Try.prog W .any base t v := hval0
  have hW' := hW
  obtain ⟨p, q, hA0, hV, rfl, hfz, hnd⟩ := hW
  have hA : DataW.TrodAll enc Try.prog W 0 (fun _ => true) true Try.f5.params.toList args.toList ds p := hA0
  rw [Try.params5] at hA hval
  obtain ⟨v0, v1, v2, d0, d1, d2, p0, p1, p2, rfl, rfl, rfl, h0, h1, h2⟩ := trodAll_three hA
  obtain ⟨rfl, rfl⟩ := trodVars_none hV
  obtain ⟨⟨v, l, F, d⟩, rfl, hr0, ho0⟩ := op_agg Try.underlying41 (hval 0 41 v0 rfl rfl) h0 dc_tb
  obtain ⟨n, rfl, hnl⟩ := op_str Try.underlying25 (hval 1 25 v1 rfl rfl)
  obtain ⟨kq, rfl, hkq1, hkq2⟩ := op_int Try.underlying3 (hval 2 3 v2 rfl rfl) h2
  refine calls_mono (c_ChaseRest v l F d n kq hnl ho0.2 ho0.1 W (rd_cons (hr0 _ (.head _)) (rd_cons (hr0 _ (.tail _ (.head _))) rd_nil))) fun e W' ⟨_, he, hw, _⟩ => ?_
  subst he
  exact ⟨_, rfl, law_post (by kernel_rfl) (by kernel_rfl) rfl hW' rfl (by kernel_rfl) Try.underlying4 hw⟩
theorem chaseRest_holds : Rows.ChaseRestSaid :=
  OpenClaim.holds_of_wide 5 Try.f5 rfl rfl rfl rfl rfl rfl rfl ⟨rfl, rfl, rfl, rfl, rfl⟩ rfl rfl rfl rfl rfl (by kernel_rfl) Try.func5 (by kernel_rfl)
    (of_decide_eq_true (by kernel_rfl)) (by unfold Func.isWrapper; first | (rw [if_pos (by decide +kernel)]; kernel_rfl) | (rw [if_neg (by decide +kernel)]; exact ⟨rfl, rfl⟩))
    (fun os started H enc _ => chaseRest_lifted os started H enc)
#print axioms chaseRest_holds
end Go.Proofs.Ytckfjfnkombelaa
