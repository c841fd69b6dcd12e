/- IndexFinds: its row holds: whatever the input, the law answers true and the input reads as it did -/
import Derived.Test.YtckfjfnkombelaaRows
import Derived.Test.YtckfjfnkombelaaJeQF
import Derived.Test.YtckfjfnkombelaaLkQF
namespace Go.Proofs.Ytckfjfnkombelaa
open Go.RowKit Go.Shelf
set_option linter.unusedVariables false

open Go.ChangeShapes Go.WideShapes Go.ChangeAt
set_option maxRecDepth 100000 in
theorem indexFinds_lifted (os : Os) (started : os.Started) (H : Type) (enc : TypeId × Value → H) :
    ReturnsInHanded {} Try.checked os 6 .any (Rows.indexFindsSpec.pre6 enc Try.prog Try.f6 Rows.indexFindsRow.domain false) (Rows.indexFindsSpec.post enc Try.prog Try.f6 false true false false) := by
  refine returnsInHanded_of_change (C := Try.checked) (by kernel_rfl) started (by kernel_rfl) Try.func6
    (ChangeSpec.witness6 (enc := enc) (C := Try.checked) false ⟨#[], #[.agg #[.int .i64 0, .slice none 0 0], .slice none 0 0, .string .empty], []⟩ 8 (by kernel_rfl) (by kernel_rfl) (by kernel_rfl) (by kernel_rfl)) ?_
  intro W base args ds gs before hval0 hW hcnd _
  have hval : ∀ (j : Nat) t v, Try.f6.params[j]? = some t → args[j]? = some v → Value.okWide Try.prog W .any base t v := hval0
  have hW' := hW
  obtain ⟨p, q, hA0, hV, rfl, hfz, hnd⟩ := hW
  have hA : DataW.TrodAll enc Try.prog W 0 (fun _ => true) true Try.f6.params.toList args.toList ds p := hA0
  rw [Try.params6] at hA hval
  obtain ⟨v0, v1, v2, d0, d1, d2, p0, p1, p2, rfl, rfl, rfl, h0, h1, h2⟩ := trodAll_three hA
  obtain ⟨rfl, rfl⟩ := trodVars_none hV
  obtain ⟨⟨v, l, F, d⟩, rfl, hr0, ho0⟩ := op_agg Try.underlying41 (hval 0 41 v0 rfl rfl) h0 dc_tb
  obtain ⟨⟨hs, Q, qc⟩, hv1, hr1, ho1⟩ := op_slice Try.underlying58 (hval 1 58 v1 rfl rfl) h1 dc_hds (fun _ => rfl)
  obtain rfl := (List.cons.inj hv1).1
  obtain ⟨n, rfl, hnl⟩ := op_str Try.underlying25 (hval 2 25 v2 rfl rfl)
  refine calls_mono (c_IndexFinds v l F d hs Q qc n hnl ho0.2 ho0.1 ho1.2 ho1.1 W (rd_cons (hr0 _ (.head _)) (rd_cons (hr0 _ (.tail _ (.head _))) (rd_cons (hr1 _ (.head _)) rd_nil)))) fun e W' ⟨_, he, hw, _⟩ => ?_
  subst he
  exact ⟨_, rfl, law_post (by kernel_rfl) (by kernel_rfl) rfl hW' rfl (by kernel_rfl) Try.underlying4 hw⟩
theorem indexFinds_holds : Rows.IndexFindsSaid :=
  OpenClaim.holds_of_wide 6 Try.f6 rfl rfl rfl rfl rfl rfl rfl ⟨rfl, rfl, rfl, rfl, rfl⟩ rfl rfl rfl rfl rfl (by kernel_rfl) Try.func6 (by kernel_rfl)
    (of_decide_eq_true (by kernel_rfl)) (by unfold Func.isWrapper; first | (rw [if_pos (by decide +kernel)]; kernel_rfl) | (rw [if_neg (by decide +kernel)]; exact ⟨rfl, rfl⟩))
    (fun os started H enc _ => indexFinds_lifted os started H enc)
#print axioms indexFinds_holds
end Go.Proofs.Ytckfjfnkombelaa
