/- EntryCalls: its row holds: whatever the input, the law answers true and the input reads as it did -/
import Derived.Test.YtahpppncjbgpaaaRows
import Derived.Test.YtahpppncjbgpaaaCm
import Derived.Test.YtahpppncjbgpaaaLk
namespace Go.Proofs.Ytahpppncjbgpaaa
open Go.RowKit Go.Shelf
set_option linter.unusedVariables false

open Go.ChangeShapes Go.WideShapes Go.ChangeAt
set_option maxRecDepth 100000 in
theorem entryCalls_lifted (os : Os) (started : os.Started) (H : Type) (enc : TypeId × Value → H) :
    ReturnsInHanded {} Try.checked os 11 .any (Rows.entryCallsSpec.pre6 enc Try.prog Try.f11 Rows.entryCallsRow.domain false) (Rows.entryCallsSpec.post enc Try.prog Try.f11 false true false false) := by
  refine returnsInHanded_of_change (C := Try.checked) (by kernel_rfl) started (by kernel_rfl) Try.func11
    (ChangeSpec.witness6 (enc := enc) (C := Try.checked) false ⟨#[], #[.agg #[.string ⟨#[]⟩, .int .i64 0, .string ⟨#[]⟩, .slice none 0 0, .string ⟨#[]⟩, .slice none 0 0, .int .u32 0], .agg #[.string ⟨#[]⟩, .int .i64 0, .string ⟨#[]⟩, .slice none 0 0, .string ⟨#[]⟩, .slice none 0 0, .int .u32 0], .string .empty, .slice none 0 0, .int .i64 0], []⟩ 8 (by kernel_rfl) (by kernel_rfl) (by kernel_rfl) (by kernel_rfl)) ?_
  intro W base args ds gs before hval0 hW hcnd _
  have hval : ∀ (j : Nat) t v, Try.f11.params[j]? = some t → args[j]? = some v → Value.okWide Try.prog W .any base t v := hval0
  have hW' := hW
  obtain ⟨p, q, hA0, hV, rfl, hfz, hnd⟩ := hW
  have hA : DataW.TrodAll enc Try.prog W 0 (fun _ => true) true Try.f11.params.toList args.toList ds p := hA0
  rw [Try.params11] at hA hval
  obtain ⟨v0, v1, v2, v3, v4, d0, d1, d2, d3, d4, p0, p1, p2, p3, p4, rfl, rfl, rfl, h0, h1, h2, h3, h4⟩ := trodAll_five hA
  obtain ⟨rfl, rfl⟩ := trodVars_none hV
  obtain ⟨⟨e, ⟨A, c⟩, ⟨B, d⟩⟩, rfl, hr0, ho0⟩ := op_agg Try.underlying48 (hval 0 48 v0 rfl rfl) h0 dc_en
  obtain ⟨⟨o, ⟨F, c2⟩, ⟨G, d2⟩⟩, rfl, hr1, ho1⟩ := op_agg Try.underlying48 (hval 1 48 v1 rfl rfl) h1 dc_en
  obtain ⟨owner, rfl, hownerl⟩ := op_str Try.underlying22 (hval 2 22 v2 rfl rfl)
  obtain ⟨⟨held, H, hc⟩, hv3, hr3, ho3⟩ := op_slice Try.underlying45 (hval 3 45 v3 rfl rfl) h3 dc_ads (fun _ => rfl)
  obtain rfl := (List.cons.inj hv3).1
  obtain ⟨t, rfl, ht1, ht2⟩ := op_int Try.underlying3 (hval 4 3 v4 rfl rfl) h4
  refine calls_mono (c_EntryCalls e A B c d o F G c2 d2 owner H hc held ho3.2 t ho0 hownerl ho3.1 W (rd_cons (hr0 _ (.head _)) (rd_cons (hr0 _ (.tail _ (.head _))) (rd_cons (hr1 _ (.head _)) (rd_cons (hr1 _ (.tail _ (.head _))) (rd_cons (hr3 _ (.head _)) rd_nil)))))) fun e W' ⟨_, he, hw, _⟩ => ?_
  subst he
  exact ⟨_, rfl, law_post (by kernel_rfl) (by kernel_rfl) rfl hW' rfl (by kernel_rfl) Try.underlying4 hw⟩
theorem entryCalls_holds : Rows.EntryCallsSaid :=
  OpenClaim.holds_of_wide 11 Try.f11 rfl rfl rfl rfl rfl rfl rfl ⟨rfl, rfl, rfl, rfl, rfl⟩ rfl rfl rfl rfl rfl (by kernel_rfl) Try.func11 (by kernel_rfl)
    (of_decide_eq_true (by kernel_rfl)) (by unfold Func.isWrapper; first | (rw [if_pos (by decide +kernel)]; kernel_rfl) | (rw [if_neg (by decide +kernel)]; exact ⟨rfl, rfl⟩))
    (fun os started H enc _ => entryCalls_lifted os started H enc)
#print axioms entryCalls_holds
end Go.Proofs.Ytahpppncjbgpaaa
