/- ChaseCalls: its row holds: whatever the input, the law answers true and the input reads as it did -/
import Derived.Test.YtckfjfnkombelaaGreatRows
import Derived.Test.YtckfjfnkombelaaGreatHiQC
import Derived.Test.YtckfjfnkombelaaGreatLkQC
namespace Go.Proofs.YtckfjfnkombelaaGreat
open Go.RowKit Go.Shelf
set_option linter.unusedVariables false

open Go.ChangeShapes Go.WideShapes Go.ChangeAt
set_option maxRecDepth 100000 in
theorem chaseCalls_lifted (os : Os) (started : os.Started) (H : Type) (enc : TypeId × Value → H) :
    ReturnsInHanded {} Tryz.checked os 4 .any (Rows.chaseCallsSpec.pre6 enc Tryz.prog Tryz.f4 Rows.chaseCallsRow.domain false) (Rows.chaseCallsSpec.post enc Tryz.prog Tryz.f4 false true false false) := by
  refine returnsInHanded_of_change (C := Tryz.checked) (by kernel_rfl) started (by kernel_rfl) Tryz.func4
    (ChangeSpec.witness6 (enc := enc) (C := Tryz.checked) false ⟨#[], #[.agg #[.int .i64 0, .slice none 0 0], .string .empty, .agg #[.slice none 0 0, .int .i64 0, .string ⟨#[]⟩, .int .i64 0, .string ⟨#[]⟩, .slice none 0 0, .string ⟨#[]⟩, .slice none 0 0, .int .u32 0], .agg #[.slice none 0 0, .int .i64 0, .string ⟨#[]⟩, .int .i64 0, .string ⟨#[]⟩, .slice none 0 0, .string ⟨#[]⟩, .slice none 0 0, .int .u32 0]], []⟩ 8 (by kernel_rfl) (by kernel_rfl) (by kernel_rfl) (by kernel_rfl)) ?_
  intro W base args ds gs before hval0 hW hcnd _
  have hval : ∀ (j : Nat) t v, Tryz.f4.params[j]? = some t → args[j]? = some v → Value.okWide Tryz.prog W .any base t v := hval0
  have hW' := hW
  obtain ⟨p, q, hA0, hV, rfl, hfz, hnd⟩ := hW
  have hA : DataW.TrodAll enc Tryz.prog W 0 (fun _ => true) true Tryz.f4.params.toList args.toList ds p := hA0
  rw [Tryz.params4] at hA hval
  obtain ⟨v0, v1, v2, v3, d0, d1, d2, d3, p0, p1, p2, p3, rfl, rfl, rfl, h0, h1, h2, h3⟩ := trodAll_four hA
  obtain ⟨rfl, rfl⟩ := trodVars_none hV
  obtain ⟨⟨v, l, F, d⟩, rfl, hr0, ho0⟩ := op_agg Tryz.underlying24 (hval 0 24 v0 rfl rfl) h0 dc_tb
  obtain ⟨n, rfl, hnl⟩ := op_str Tryz.underlying26 (hval 1 26 v1 rfl rfl)
  obtain ⟨⟨l1, A1, c1, s1, e1⟩, rfl, hr2, ho2⟩ := op_agg Tryz.underlying64 (hval 2 64 v2 rfl rfl) h2 dc_ch
  obtain ⟨⟨l2, A2, c2, s2, e2⟩, rfl, hr3, ho3⟩ := op_agg Tryz.underlying64 (hval 3 64 v3 rfl rfl) h3 dc_ch
  refine calls_mono (c_ChaseCalls v l F d n l1 A1 c1 s1 e1 l2 A2 c2 s2 e2 hnl ho0.2 ho0.1 ho2.1.1 ho2.1.2 ho2.2 ho3.1.1 ho3.1.2 ho3.2 W (rd_cons (hr0 _ (.head _)) (rd_cons (hr0 _ (.tail _ (.head _))) (rd_cons (hr2 _ (.head _)) (rd_cons (hr2 _ (.tail _ (.head _))) (rd_cons (hr2 _ (.tail _ (.tail _ (.head _)))) (rd_cons (hr3 _ (.head _)) (rd_cons (hr3 _ (.tail _ (.head _))) (rd_cons (hr3 _ (.tail _ (.tail _ (.head _)))) rd_nil))))))))) fun e W' ⟨_, he, hw, _⟩ => ?_
  subst he
  exact ⟨_, rfl, law_post (by kernel_rfl) (by kernel_rfl) rfl hW' rfl (by kernel_rfl) Tryz.underlying4 hw⟩
theorem chaseCalls_holds : Rows.ChaseCallsSaid :=
  OpenClaim.holds_of_wide 4 Tryz.f4 rfl rfl rfl rfl rfl rfl rfl ⟨rfl, rfl, rfl, rfl, rfl⟩ rfl rfl rfl rfl rfl (by kernel_rfl) Tryz.func4 (by kernel_rfl)
    (of_decide_eq_true (by kernel_rfl)) (by unfold Func.isWrapper; first | (rw [if_pos (by decide +kernel)]; kernel_rfl) | (rw [if_neg (by decide +kernel)]; exact ⟨rfl, rfl⟩))
    (fun os started H enc _ => chaseCalls_lifted os started H enc)
#print axioms chaseCalls_holds
end Go.Proofs.YtckfjfnkombelaaGreat
