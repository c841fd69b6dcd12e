/- SearchFirst: its row holds: whatever the input, the law answers true and the input reads as it did -/
import Derived.Test.YtckfjfnkombelaaRows
import Derived.Test.YtckfjfnkombelaaIe
import Derived.Test.YtckfjfnkombelaaLk
namespace Go.Proofs.Ytckfjfnkombelaa
open Go.RowKit Go.Shelf
set_option linter.unusedVariables false

open Go.ChangeShapes Go.WideShapes Go.ChangeAt
set_option maxRecDepth 100000 in
theorem searchFirst_lifted (os : Os) (started : os.Started) (H : Type) (enc : TypeId × Value → H) :
    ReturnsInHanded {} Try.checked os 13 .any (Rows.searchFirstSpec.pre6 enc Try.prog Try.f13 Rows.searchFirstRow.domain false) (Rows.searchFirstSpec.post enc Try.prog Try.f13 false true false false) := by
  refine returnsInHanded_of_change (C := Try.checked) (by kernel_rfl) started (by kernel_rfl) Try.func13
    (ChangeSpec.witness6 (enc := enc) (C := Try.checked) false ⟨#[], #[.agg #[.int .i64 0, .slice none 0 0], .string .empty, .agg #[.int .i64 0, .slice none 0 0]], []⟩ 8 (by kernel_rfl) (by kernel_rfl) (by kernel_rfl) (by kernel_rfl)) ?_
  intro W base args ds gs before hval0 hW hcnd _
  have hval : ∀ (j : Nat) t v, Try.f13.params[j]? = some t → args[j]? = some v → Value.okWide Try.prog W .any base t v := hval0
  have hW' := hW
  obtain ⟨p, q, hA0, hV, rfl, hfz, hnd⟩ := hW
  have hA : DataW.TrodAll enc Try.prog W 0 (fun _ => true) true Try.f13.params.toList args.toList ds p := hA0
  rw [Try.params13] at hA hval
  obtain ⟨v0, v1, v2, d0, d1, d2, p0, p1, p2, rfl, rfl, rfl, h0, h1, h2⟩ := trodAll_three hA
  obtain ⟨rfl, rfl⟩ := trodVars_none hV
  obtain ⟨⟨s, A, c⟩, rfl, hr0, ho0⟩ := op_agg Try.underlying24 (hval 0 24 v0 rfl rfl) h0 dc_sr
  obtain ⟨n, rfl, hnl⟩ := op_str Try.underlying25 (hval 1 25 v1 rfl rfl)
  obtain ⟨⟨v, l, F, d⟩, rfl, hr2, ho2⟩ := op_agg Try.underlying41 (hval 2 41 v2 rfl rfl) h2 dc_tb
  refine calls_mono (c_SearchFirst s A c n v l F d ho0 hnl ho2.2 ho2.1 W (rd_cons (hr0 _ (.head _)) (rd_cons (hr2 _ (.head _)) (rd_cons (hr2 _ (.tail _ (.head _))) rd_nil)))) fun e W' ⟨_, he, hw, _⟩ => ?_
  subst he
  exact ⟨_, rfl, law_post (by kernel_rfl) (by kernel_rfl) rfl hW' rfl (by kernel_rfl) Try.underlying4 hw⟩
theorem searchFirst_holds : Rows.SearchFirstSaid :=
  OpenClaim.holds_of_wide 13 Try.f13 rfl rfl rfl rfl rfl rfl rfl ⟨rfl, rfl, rfl, rfl, rfl⟩ rfl rfl rfl rfl rfl (by kernel_rfl) Try.func13 (by kernel_rfl)
    (of_decide_eq_true (by kernel_rfl)) (by unfold Func.isWrapper; first | (rw [if_pos (by decide +kernel)]; kernel_rfl) | (rw [if_neg (by decide +kernel)]; exact ⟨rfl, rfl⟩))
    (fun os started H enc _ => searchFirst_lifted os started H enc)
#print axioms searchFirst_holds
end Go.Proofs.Ytckfjfnkombelaa
