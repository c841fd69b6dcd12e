/- HashSame: its row holds: whatever the input, the law answers true and the input reads as it did -/
import Derived.Test.YtahpppncjbgpaaaRows
import Derived.Test.YtahpppncjbgpaaaCe
import Derived.Test.YtahpppncjbgpaaaLk
namespace Go.Proofs.Ytahpppncjbgpaaa
open Go.RowKit Go.Shelf
set_option linter.unusedVariables false

open Go.ChangeShapes Go.WideShapes Go.ChangeAt
set_option maxRecDepth 100000 in
theorem hashSame_lifted (os : Os) (started : os.Started) (H : Type) (enc : TypeId × Value → H) :
    ReturnsInHanded {} Try.checked os 7 .any (Rows.hashSameSpec.pre6 enc Try.prog Try.f7 Rows.hashSameRow.domain false) (Rows.hashSameSpec.post enc Try.prog Try.f7 false true false false) := by
  refine returnsInHanded_of_change (C := Try.checked) (by kernel_rfl) started (by kernel_rfl) Try.func7
    (ChangeSpec.witness6 (enc := enc) (C := Try.checked) false ⟨#[], #[.string .empty, .string .empty, .string .empty, .int .i64 0, .int .i64 0], []⟩ 8 (by kernel_rfl) (by kernel_rfl) (by kernel_rfl) (by kernel_rfl)) ?_
  intro W base args ds gs before hval0 hW hcnd _
  have hval : ∀ (j : Nat) t v, Try.f7.params[j]? = some t → args[j]? = some v → Value.okWide Try.prog W .any base t v := hval0
  have hW' := hW
  obtain ⟨p, q, hA0, hV, rfl, hfz, hnd⟩ := hW
  have hA : DataW.TrodAll enc Try.prog W 0 (fun _ => true) true Try.f7.params.toList args.toList ds p := hA0
  rw [Try.params7] at hA hval
  obtain ⟨v0, v1, v2, v3, v4, d0, d1, d2, d3, d4, p0, p1, p2, p3, p4, rfl, rfl, rfl, h0, h1, h2, h3, h4⟩ := trodAll_five hA
  obtain ⟨rfl, rfl⟩ := trodVars_none hV
  obtain ⟨n, rfl, hnl⟩ := op_str Try.underlying22 (hval 0 22 v0 rfl rfl)
  obtain ⟨m, rfl, hml⟩ := op_str Try.underlying22 (hval 1 22 v1 rfl rfl)
  obtain ⟨s, rfl, hsl⟩ := op_str Try.underlying9 (hval 2 9 v2 rfl rfl)
  obtain ⟨c, rfl, hc1, hc2⟩ := op_int Try.underlying3 (hval 3 3 v3 rfl rfl) h3
  obtain ⟨k, rfl, hk1, hk2⟩ := op_int Try.underlying3 (hval 4 3 v4 rfl rfl) h4
  have hk1 : -9223372036854775808 ≤ k := hk1
  have hk2 : k ≤ 9223372036854775807 := hk2
  refine calls_mono (c_HashSame n m s c k hnl hml hsl hk1 hk2 W) fun e W' ⟨he, hw⟩ => ?_
  subst he
  exact ⟨_, rfl, law_post (by kernel_rfl) (by kernel_rfl) rfl hW' rfl (by kernel_rfl) Try.underlying4 hw⟩
theorem hashSame_holds : Rows.HashSameSaid :=
  OpenClaim.holds_of_wide 7 Try.f7 rfl rfl rfl rfl rfl rfl rfl ⟨rfl, rfl, rfl, rfl, rfl⟩ rfl rfl rfl rfl rfl (by kernel_rfl) Try.func7 (by kernel_rfl)
    (of_decide_eq_true (by kernel_rfl)) (by unfold Func.isWrapper; first | (rw [if_pos (by decide +kernel)]; kernel_rfl) | (rw [if_neg (by decide +kernel)]; exact ⟨rfl, rfl⟩))
    (fun os started H enc _ => hashSame_lifted os started H enc)
#print axioms hashSame_holds
end Go.Proofs.Ytahpppncjbgpaaa
