/- EntryFolds: its row holds: whatever the input, the law answers true and the input reads as it did -/
import Derived.Test.YtahpppncjbgpaaaRows
import Derived.Test.YtahpppncjbgpaaaCl
import Derived.Test.YtahpppncjbgpaaaLk
namespace Go.Proofs.Ytahpppncjbgpaaa
open Go.RowKit Go.Shelf
set_option linter.unusedVariables false

open Go.ChangeShapes Go.WideShapes Go.ChangeAt
set_option maxRecDepth 100000 in
theorem entryFolds_lifted (os : Os) (started : os.Started) (H : Type) (enc : TypeId × Value → H) :
    ReturnsInHanded {} Try.checked os 9 .any (Rows.entryFoldsSpec.pre6 enc Try.prog Try.f9 Rows.entryFoldsRow.domain false) (Rows.entryFoldsSpec.post enc Try.prog Try.f9 false true false false) := by
  refine returnsInHanded_of_change (C := Try.checked) (by kernel_rfl) started (by kernel_rfl) Try.func9
    (ChangeSpec.witness6 (enc := enc) (C := Try.checked) false ⟨#[], #[.agg #[.string ⟨#[]⟩, .int .i64 0, .string ⟨#[]⟩, .slice none 0 0, .string ⟨#[]⟩, .slice none 0 0, .int .u32 0], .string .empty, .slice none 0 0, .int .i64 0], []⟩ 8 (by kernel_rfl) (by kernel_rfl) (by kernel_rfl) (by kernel_rfl)) ?_
  intro W base args ds gs before hval0 hW hcnd _
  have hval : ∀ (j : Nat) t v, Try.f9.params[j]? = some t → args[j]? = some v → Value.okWide Try.prog W .any base t v := hval0
  have hW' := hW
  obtain ⟨p, q, hA0, hV, rfl, hfz, hnd⟩ := hW
  have hA : DataW.TrodAll enc Try.prog W 0 (fun _ => true) true Try.f9.params.toList args.toList ds p := hA0
  rw [Try.params9] at hA hval
  obtain ⟨v0, v1, v2, v3, d0, d1, d2, d3, p0, p1, p2, p3, rfl, rfl, rfl, h0, h1, h2, h3⟩ := trodAll_four hA
  obtain ⟨rfl, rfl⟩ := trodVars_none hV
  obtain ⟨⟨e, ⟨A, c⟩, ⟨B, d⟩⟩, rfl, hr0, ho0⟩ := op_agg Try.underlying48 (hval 0 48 v0 rfl rfl) h0 dc_en
  obtain ⟨owner, rfl, hownerl⟩ := op_str Try.underlying22 (hval 1 22 v1 rfl rfl)
  obtain ⟨⟨held, H, hc⟩, hv2, hr2, ho2⟩ := op_slice Try.underlying45 (hval 2 45 v2 rfl rfl) h2 dc_ads (fun _ => rfl)
  obtain rfl := (List.cons.inj hv2).1
  obtain ⟨t, rfl, ht1, ht2⟩ := op_int Try.underlying3 (hval 3 3 v3 rfl rfl) h3
  refine calls_mono (c_EntryFolds e A B c d owner H hc held ho2.2 t ho0 hownerl ho2.1 W (rd_cons (hr0 _ (.head _)) (rd_cons (hr0 _ (.tail _ (.head _))) (rd_cons (hr2 _ (.head _)) rd_nil)))) fun e W' ⟨_, he, hw, _⟩ => ?_
  subst he
  exact ⟨_, rfl, law_post (by kernel_rfl) (by kernel_rfl) rfl hW' rfl (by kernel_rfl) Try.underlying4 hw⟩
theorem entryFolds_holds : Rows.EntryFoldsSaid :=
  OpenClaim.holds_of_wide 9 Try.f9 rfl rfl rfl rfl rfl rfl rfl ⟨rfl, rfl, rfl, rfl, rfl⟩ rfl rfl rfl rfl rfl (by kernel_rfl) Try.func9 (by kernel_rfl)
    (of_decide_eq_true (by kernel_rfl)) (by unfold Func.isWrapper; first | (rw [if_pos (by decide +kernel)]; kernel_rfl) | (rw [if_neg (by decide +kernel)]; exact ⟨rfl, rfl⟩))
    (fun os started H enc _ => entryFolds_lifted os started H enc)
#print axioms entryFolds_holds
end Go.Proofs.Ytahpppncjbgpaaa
