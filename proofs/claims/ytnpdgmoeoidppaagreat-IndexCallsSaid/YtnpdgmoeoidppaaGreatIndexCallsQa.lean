import Derived.Test.YtnpdgmoeoidppaaGreatRows
import Derived.Test.YtnpdgmoeoidppaaGreatJmQa
import Derived.Test.YtnpdgmoeoidppaaGreatClQa
/- IndexCalls: its row holds: whatever the input, the law answers true and the input reads as it did -/
namespace Go.Proofs.YtnpdgmoeoidppaaGreat
open Go.RowKit Go.Shelf
set_option linter.unusedVariables false

open Go.ChangeShapes Go.WideShapes Go.ChangeAt
set_option maxRecDepth 100000 in
theorem indexCalls_lifted (os : Os) (started : os.Started) (H : Type) (enc : TypeId × Value → H) :
    ReturnsInHanded {} Tryz.checked os 3 .any (Rows.indexCallsSpec.pre6 enc Tryz.prog Tryz.f3 Rows.indexCallsRow.domain false) (Rows.indexCallsSpec.post enc Tryz.prog Tryz.f3 false true false false) := by
  refine returnsInHanded_of_change (C := Tryz.checked) (by kernel_rfl) started (by kernel_rfl) Tryz.func3
    (ChangeSpec.witness6 (enc := enc) (C := Tryz.checked) false ⟨#[], #[.agg #[.int .i64 0, .slice none 0 0], .slice none 0 0, .string .empty, .agg #[.bool false, .int .u64 0, .int .u64 0], .agg #[.string ⟨#[]⟩, .int .i64 0, .string ⟨#[]⟩, .slice none 0 0, .string ⟨#[]⟩, .slice none 0 0, .int .u32 0]], []⟩ 8 (by kernel_rfl) (by kernel_rfl) (by kernel_rfl) (by kernel_rfl)) ?_
  intro W base args ds gs before hval0 hW hcnd _
  have hval : ∀ (j : Nat) t v, Tryz.f3.params[j]? = some t → args[j]? = some v → Value.okWide Tryz.prog W .any base t v := hval0
  have hW' := hW
  obtain ⟨p, q, hA0, hV, rfl, hfz, hnd⟩ := hW
  have hA : DataW.TrodAll enc Tryz.prog W 0 (fun _ => true) true Tryz.f3.params.toList args.toList ds p := hA0
  rw [Tryz.params3] at hA hval
  obtain ⟨v0, v1, v2, v3, v4, d0, d1, d2, d3, d4, p0, p1, p2, p3, p4, rfl, rfl, rfl, h0, h1, h2, h3, h4⟩ := trodAll_five hA
  obtain ⟨rfl, rfl⟩ := trodVars_none hV
  obtain ⟨⟨v, l, F, d⟩, rfl, hr0, ho0⟩ := op_agg Tryz.underlying24 (hval 0 24 v0 rfl rfl) h0 dc_tb
  obtain ⟨⟨hs, Q, qc⟩, hv1, hr1, ho1⟩ := op_slice Tryz.underlying25 (hval 1 25 v1 rfl rfl) h1 dc_hds (fun _ => rfl)
  obtain rfl := (List.cons.inj hv1).1
  obtain ⟨n, rfl, hnl⟩ := op_str Tryz.underlying26 (hval 2 26 v2 rfl rfl)
  obtain ⟨a, rfl, hr3, ho3⟩ := op_agg Tryz.underlying29 (hval 3 29 v3 rfl rfl) h3 dc_ad
  obtain ⟨⟨e, ⟨A, c⟩, ⟨B, d2⟩⟩, rfl, hr4, ho4⟩ := op_agg Tryz.underlying34 (hval 4 34 v4 rfl rfl) h4 dc_en
  refine dl (c_IndexCalls v l F d hs Q qc n a ⟨e, A, c, B, d2⟩ hnl ho0.2 ho0.1 ho1.2 ho1.1 ho4.1 W (aO (hr0 _ (.head _)) (aO (hr0 _ (.tail _ (.head _))) (aO (hr1 _ (.head _)) bd)))) fun e W' ⟨_, he, hw, _⟩ => ?_
  subst he
  exact ⟨_, rfl, law_post (by kernel_rfl) (by kernel_rfl) rfl hW' rfl (by kernel_rfl) Tryz.underlying4 hw⟩
theorem indexCalls_holds : Rows.IndexCallsSaid :=
  OpenClaim.holds_of_wide 3 Tryz.f3 rfl rfl rfl rfl rfl rfl rfl ⟨rfl, rfl, rfl, rfl, rfl⟩ rfl rfl rfl rfl rfl (by kernel_rfl) Tryz.func3 (by kernel_rfl)
    (of_decide_eq_true (by kernel_rfl)) (by unfold Func.isWrapper; first | (rw [if_pos (by decide +kernel)]; kernel_rfl) | (rw [if_neg (by decide +kernel)]; exact ⟨rfl, rfl⟩))
    (fun os started H enc _ => indexCalls_lifted os started H enc)
#print axioms indexCalls_holds
end Go.Proofs.YtnpdgmoeoidppaaGreat
