/- IndexOrder: its row holds: whatever the input, the law answers true and the input reads as it did -/
import Derived.Test.YtckfjfnkombelaaRows
import Derived.Test.YtckfjfnkombelaaJhQO
import Derived.Test.YtckfjfnkombelaaLkQO
namespace Go.Proofs.Ytckfjfnkombelaa
open Go.RowKit Go.Shelf
set_option linter.unusedVariables false

open Go.ChangeShapes Go.WideShapes Go.ChangeAt
set_option maxRecDepth 100000 in
theorem indexOrder_lifted (os : Os) (started : os.Started) (H : Type) (enc : TypeId × Value → H) :
    ReturnsInHanded {} Try.checked os 10 .any (Rows.indexOrderSpec.pre6 enc Try.prog Try.f10 Rows.indexOrderRow.domain false) (Rows.indexOrderSpec.post enc Try.prog Try.f10 false true false false) := by
  refine returnsInHanded_of_change (C := Try.checked) (by kernel_rfl) started (by kernel_rfl) Try.func10
    (ChangeSpec.witness6 (enc := enc) (C := Try.checked) false ⟨#[], #[.agg #[.int .i64 0, .slice none 0 0], .slice none 0 0, .int .i64 0, .string .empty, .agg #[.bool false, .int .u64 0, .int .u64 0]], []⟩ 8 (by kernel_rfl) (by kernel_rfl) (by kernel_rfl) (by kernel_rfl)) ?_
  intro W base args ds gs before hval0 hW hcnd _
  have hval : ∀ (j : Nat) t v, Try.f10.params[j]? = some t → args[j]? = some v → Value.okWide Try.prog W .any base t v := hval0
  have hW' := hW
  obtain ⟨p, q, hA0, hV, rfl, hfz, hnd⟩ := hW
  have hA : DataW.TrodAll enc Try.prog W 0 (fun _ => true) true Try.f10.params.toList args.toList ds p := hA0
  rw [Try.params10] at hA hval
  obtain ⟨v0, v1, v2, v3, v4, d0, d1, d2, d3, d4, p0, p1, p2, p3, p4, rfl, rfl, rfl, h0, h1, h2, h3, h4⟩ := trodAll_five hA
  obtain ⟨rfl, rfl⟩ := trodVars_none hV
  obtain ⟨⟨v, l, F, d⟩, rfl, hr0, ho0⟩ := op_agg Try.underlying41 (hval 0 41 v0 rfl rfl) h0 dc_tb
  obtain ⟨⟨hs, Q, qc⟩, hv1, hr1, ho1⟩ := op_slice Try.underlying58 (hval 1 58 v1 rfl rfl) h1 dc_hds (fun _ => rfl)
  obtain rfl := (List.cons.inj hv1).1
  obtain ⟨bq, rfl, hbq1, hbq2⟩ := op_int Try.underlying3 (hval 2 3 v2 rfl rfl) h2
  obtain ⟨n, rfl, hnl⟩ := op_str Try.underlying25 (hval 3 25 v3 rfl rfl)
  obtain ⟨a, rfl, hr4, ho4⟩ := op_agg Try.underlying66 (hval 4 66 v4 rfl rfl) h4 dc_ad
  refine calls_mono (c_IndexOrder v l F d hs Q qc bq n a hnl ho0.2 ho0.1 ho1.2 ho1.1 (op_cap Try.underlying58 (hval 1 58 _ rfl rfl)) W (rd_cons (hr0 _ (.head _)) (rd_cons (hr0 _ (.tail _ (.head _))) (rd_cons (hr1 _ (.head _)) rd_nil)))) fun e W' ⟨_, he, hw, _⟩ => ?_
  subst he
  exact ⟨_, rfl, law_post (by kernel_rfl) (by kernel_rfl) rfl hW' rfl (by kernel_rfl) Try.underlying4 hw⟩
theorem indexOrder_holds : Rows.IndexOrderSaid :=
  OpenClaim.holds_of_wide 10 Try.f10 rfl rfl rfl rfl rfl rfl rfl ⟨rfl, rfl, rfl, rfl, rfl⟩ rfl rfl rfl rfl rfl (by kernel_rfl) Try.func10 (by kernel_rfl)
    (of_decide_eq_true (by kernel_rfl)) (by unfold Func.isWrapper; first | (rw [if_pos (by decide +kernel)]; kernel_rfl) | (rw [if_neg (by decide +kernel)]; exact ⟨rfl, rfl⟩))
    (fun os started H enc _ => indexOrder_lifted os started H enc)
#print axioms indexOrder_holds
end Go.Proofs.Ytckfjfnkombelaa
