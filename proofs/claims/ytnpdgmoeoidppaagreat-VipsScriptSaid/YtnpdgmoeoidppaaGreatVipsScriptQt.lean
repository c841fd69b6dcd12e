import Derived.Test.YtnpdgmoeoidppaaGreatRows
import Derived.Test.YtnpdgmoeoidppaaGreatVyQt
import Derived.Test.YtnpdgmoeoidppaaGreatLkQt
/- VipsScript: its row holds: whatever the input, the law answers true and the input reads as it did -/
namespace Go.Proofs.YtnpdgmoeoidppaaGreat
open Go.RowKit Go.Shelf
set_option linter.unusedVariables false

open Go.ChangeShapes Go.WideShapes Go.ChangeAt
set_option maxRecDepth 100000 in
theorem vipsScript_lifted (os : Os) (started : os.Started) (H : Type) (enc : TypeId × Value → H) :
    ReturnsInHanded {} Tryz.checked os 7 .any (Rows.vipsScriptSpec.pre6 enc Tryz.prog Tryz.f7 Rows.vipsScriptRow.domain false) (Rows.vipsScriptSpec.post enc Tryz.prog Tryz.f7 false true false false) := by
  refine returnsInHanded_of_change (C := Tryz.checked) (by kernel_rfl) started (by kernel_rfl) Tryz.func7
    (ChangeSpec.witness6 (enc := enc) (C := Tryz.checked) false ⟨#[], #[.agg #[.bool false, .int .u64 0, .int .u64 0, .int .i64 0, .slice none 0 0], .slice none 0 0], []⟩ 8 (by kernel_rfl) (by kernel_rfl) (by kernel_rfl) (by kernel_rfl)) ?_
  intro W base args ds gs before hval0 hW hcnd _
  have hval : ∀ (j : Nat) t v, Tryz.f7.params[j]? = some t → args[j]? = some v → Value.okWide Tryz.prog W .any base t v := hval0
  have hW' := hW
  obtain ⟨p, q, hA0, hV, rfl, hfz, hnd⟩ := hW
  have hA : DataW.TrodAll enc Tryz.prog W 0 (fun _ => true) true Tryz.f7.params.toList args.toList ds p := hA0
  rw [Tryz.params7] at hA hval
  obtain ⟨v0, v1, d0, d1, p0, p1, rfl, rfl, rfl, h0, h1⟩ := trodAll_two hA
  obtain ⟨rfl, rfl⟩ := trodVars_none hV
  obtain ⟨⟨rg, res, A, c⟩, rfl, hr0, ho0⟩ := op_agg Tryz.underlying67 (hval 0 67 v0 rfl rfl) h0 dc_pl
  obtain ⟨⟨acts, F, fc⟩, hv1, hr1, ho1⟩ := op_slice Tryz.underlying86 (hval 1 86 v1 rfl rfl) h1 dc_acs (fun _ => rfl)
  obtain rfl := (List.cons.inj hv1).1
  refine bW (c_VipsScript rg res A c ho0.1 ho0.2.2 ho0.2.1 acts F fc ho1.1 ho1.2 W (aQ (hr0 _ (.head _)) (aQ (hr1 _ (.head _)) (aQ (rd_rall (fun s hs => hr1 s (.tail _ hs))) bf)))) fun e W' ⟨_, he, hw, _⟩ => ?_
  subst he
  exact ⟨_, rfl, law_post (by kernel_rfl) (by kernel_rfl) rfl hW' rfl (by kernel_rfl) Tryz.underlying4 hw⟩
theorem vipsScript_holds : Rows.VipsScriptSaid :=
  OpenClaim.holds_of_wide 7 Tryz.f7 rfl rfl rfl rfl rfl rfl rfl ⟨rfl, rfl, rfl, rfl, rfl⟩ rfl rfl rfl rfl rfl (by kernel_rfl) Tryz.func7 (by kernel_rfl)
    (of_decide_eq_true (by kernel_rfl)) (by unfold Func.isWrapper; first | (rw [if_pos (by decide +kernel)]; kernel_rfl) | (rw [if_neg (by decide +kernel)]; exact ⟨rfl, rfl⟩))
    (fun os started H enc _ => vipsScript_lifted os started H enc)
#print axioms vipsScript_holds
end Go.Proofs.YtnpdgmoeoidppaaGreat
