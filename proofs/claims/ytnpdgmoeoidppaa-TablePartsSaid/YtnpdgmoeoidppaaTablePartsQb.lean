import Derived.Test.YtnpdgmoeoidppaaRows
import Derived.Test.YtnpdgmoeoidppaaUjQb
import Derived.Test.YtnpdgmoeoidppaaUkQb
import Derived.Test.YtnpdgmoeoidppaaCkQb
/- TableParts: its row holds: whatever the input, the law answers true and the input reads as it did -/
namespace Go.Proofs.Ytnpdgmoeoidppaa
open Go.RowKit Go.Shelf
set_option linter.unusedVariables false

open Go.ChangeShapes Go.WideShapes Go.ChangeAt
set_option maxRecDepth 100000 in
theorem tableParts_lifted (os : Os) (started : os.Started) (H : Type) (enc : TypeId × Value → H) :
    ReturnsInHanded {} Try.checked os 3 .any (Rows.tablePartsSpec.pre6 enc Try.prog Try.f3 Rows.tablePartsRow.domain false) (Rows.tablePartsSpec.post enc Try.prog Try.f3 false true false false) := by
  refine returnsInHanded_of_change (C := Try.checked) (by kernel_rfl) started (by kernel_rfl) Try.func3
    (ChangeSpec.witness6 (enc := enc) (C := Try.checked) false ⟨#[], #[.agg #[.int .i64 0, .slice none 0 0], .agg #[.bool false, .int .i64 0, .int .i64 0, .slice none 0 0, .slice none 0 0], .int .i64 0], []⟩ 8 (by kernel_rfl) (by kernel_rfl) (by kernel_rfl) (by kernel_rfl)) ?_
  intro W base args ds gs before hval0 hW hcnd _
  have hval : ∀ (j : Nat) t v, Try.f3.params[j]? = some t → args[j]? = some v → Value.okWide Try.prog W .any base t v := hval0
  have hW' := hW
  obtain ⟨p, q, hA0, hV, rfl, hfz, hnd⟩ := hW
  have hA : DataW.TrodAll enc Try.prog W 0 (fun _ => true) true Try.f3.params.toList args.toList ds p := hA0
  rw [Try.params3] at hA hval
  obtain ⟨v0, v1, v2, d0, d1, d2, p0, p1, p2, rfl, rfl, rfl, h0, h1, h2⟩ := trodAll_three hA
  obtain ⟨rfl, rfl⟩ := trodVars_none hV
  obtain ⟨⟨v, l, F, d⟩, rfl, hr0, ho0⟩ := op_agg Try.underlying24 (hval 0 24 v0 rfl rfl) h0 dc_tb
  obtain ⟨⟨full, bs, ver, ⟨put, P, pc⟩, drop, D, dc⟩, rfl, hr1, ho1⟩ := op_agg Try.underlying27 (hval 1 27 v1 rfl rfl) h1 dc_push
  obtain ⟨cq, rfl, hcq1, hcq2⟩ := op_int Try.underlying3 (hval 2 3 v2 rfl rfl) h2
  refine cB (c_TableParts v l F d full bs ver put P pc drop D dc cq ho0.2 ho0.1 ho1.1.2 ho1.1.1 ho1.2 (op_fcap (ts := [4, 3, 3, 22, 25]) Try.underlying27 (hval 1 27 _ rfl rfl) 3 (by kernel_rfl) (by kernel_rfl) Try.underlying22 rfl) W (ak (hr0 _ (.head _)) (ak (hr0 _ (.tail _ (.head _))) (ak (hr1 _ (.head _)) (ak (hr1 _ (.tail _ (.head _))) (ak (hr1 _ (.tail _ (.tail _ (.head _)))) aO)))))) fun e W' ⟨_, he, hw, _⟩ => ?_
  subst he
  exact ⟨_, rfl, law_post (by kernel_rfl) (by kernel_rfl) rfl hW' rfl (by kernel_rfl) Try.underlying4 hw⟩
theorem tableParts_holds : Rows.TablePartsSaid :=
  OpenClaim.holds_of_wide 3 Try.f3 rfl rfl rfl rfl rfl rfl rfl ⟨rfl, rfl, rfl, rfl, rfl⟩ rfl rfl rfl rfl rfl (by kernel_rfl) Try.func3 (by kernel_rfl)
    (of_decide_eq_true (by kernel_rfl)) (by unfold Func.isWrapper; first | (rw [if_pos (by decide +kernel)]; kernel_rfl) | (rw [if_neg (by decide +kernel)]; exact ⟨rfl, rfl⟩))
    (fun os started H enc _ => tableParts_lifted os started H enc)
#print axioms tableParts_holds
end Go.Proofs.Ytnpdgmoeoidppaa
