import Derived.Test.YtfmelbpgkbiooaaGreatRows
import Derived.Test.YtfmelbpgkbiooaaGreatRcS
import Derived.Test.YtfmelbpgkbiooaaGreatPfS
/- RouteSame: its row holds: whatever the input, the law answers true and the input reads as it did -/
namespace Go.Proofs.YtfmelbpgkbiooaaGreat
open Go.RowKit Go.Shelf
set_option linter.unusedVariables false

open Go.ChangeShapes Go.WideShapes Go.ChangeAt
set_option maxRecDepth 100000 in
theorem routeSame_lifted (os : Os) (started : os.Started) (H : Type) (enc : TypeId × Value → H) :
    ReturnsInHanded {} Tryz.checked os 5 .any (Rows.routeSameSpec.pre6 enc Tryz.prog Tryz.f5 Rows.routeSameRow.domain false) (Rows.routeSameSpec.post enc Tryz.prog Tryz.f5 false true false false) := by
  refine returnsInHanded_of_change (C := Tryz.checked) (by kernel_rfl) started (by kernel_rfl) Tryz.func5
    (ChangeSpec.witness6 (enc := enc) (C := Tryz.checked) false ⟨#[], #[.slice none 0 0, .slice none 0 0], []⟩ 8 (by kernel_rfl) (by kernel_rfl) (by kernel_rfl) (by kernel_rfl)) ?_
  intro W base args ds gs before hval0 hW hcnd _
  have hval : ∀ (j : Nat) t v, Tryz.f5.params[j]? = some t → args[j]? = some v → Value.okWide Tryz.prog W .any base t v := hval0
  have hW' := hW
  obtain ⟨p, q, hA0, hV, rfl, hfz, hnd⟩ := hW
  have hA : DataW.TrodAll enc Tryz.prog W 0 (fun _ => true) true Tryz.f5.params.toList args.toList ds p := hA0
  rw [Tryz.params5] at hA hval
  obtain ⟨v0, v1, d0, d1, p0, p1, rfl, rfl, rfl, h0, h1⟩ := trodAll_two hA
  obtain ⟨rfl, rfl⟩ := trodVars_none hV
  obtain ⟨⟨xs, A, c⟩, hv0, hr0, ho0⟩ := op_slice Tryz.underlying50 (hval 0 50 v0 rfl rfl) h0 dc_rts (fun _ => rfl)
  obtain rfl := (List.cons.inj hv0).1
  obtain ⟨⟨ys, B, e⟩, hv1, hr1, ho1⟩ := op_slice Tryz.underlying50 (hval 1 50 v1 rfl rfl) h1 dc_rts (fun _ => rfl)
  obtain rfl := (List.cons.inj hv1).1
  refine calls_mono (c_RouteSame xs A c ys B e ho0.1 ho1.1 W (rd_cons (hr0 _ (.head _)) (rd_cons (hr1 _ (.head _)) rd_nil))) fun e W' ⟨_, he, hw, _⟩ => ?_
  subst he
  exact ⟨_, rfl, law_post (by kernel_rfl) (by kernel_rfl) rfl hW' rfl (by kernel_rfl) Tryz.underlying4 hw⟩
theorem routeSame_holds : Rows.RouteSameSaid :=
  OpenClaim.holds_of_wide 5 Tryz.f5 rfl rfl rfl rfl rfl rfl rfl ⟨rfl, rfl, rfl, rfl, rfl⟩ rfl rfl rfl rfl rfl (by kernel_rfl) Tryz.func5 (by kernel_rfl)
    (of_decide_eq_true (by kernel_rfl)) (by unfold Func.isWrapper; first | (rw [if_pos (by decide +kernel)]; kernel_rfl) | (rw [if_neg (by decide +kernel)]; exact ⟨rfl, rfl⟩))
    (fun os started H enc _ => routeSame_lifted os started H enc)
#print axioms routeSame_holds
end Go.Proofs.YtfmelbpgkbiooaaGreat
